/- A thing of the kind Super, as a sector. The form of the kind Super; Put of a thing. The small superblock. A new ledger. A cache that is being made: its struct, and the things that there are as yet. -/
import Derived.Test.YtfhfbpmlnjdfoaaGreatDoorA06
import Derived.Test.YtfhfbpmlnjdfoaaGreatDoorA28
import Derived.Laws.EntriesVeiled
import Derived.Test.YtfhfbpmlnjdfoaaGreatDoorA09
import Derived.Test.YtfhfbpmlnjdfoaaGreatDoorA14
import Derived.Test.YtfhfbpmlnjdfoaaGreatDoorA17
import Derived.Test.YtfhfbpmlnjdfoaaGreatDoorA21
import Derived.Test.YtfhfbpmlnjdfoaaGreatDoorA19
import Derived.Test.YtfhfbpmlnjdfoaaGreatDoorA12
namespace Go.Proofs.YtfhfbpmlnjdfoaaGreatDoor
open Go Go.RowKit
set_option maxRecDepth 100000 in
set_option maxHeartbeats 2000000 in
theorem putS_yes {w : World} (k : Nat) (hk : k < 256) (l : List (Nat × Nat)) (hl : Fits l) (m : Nat) (hm : l.length = m) (hm2 : m ≤ 100) (gs cl : Nat) (ft fm : Nat) (ct cm : Array Value) (bv : Value) (_hbv : bv.oneCell' = true) (cs : List Value)
    (hcs : (Tryz.prog.info? 40).map (·.size) = some cs.length) (hs : w.rangeAt gs 0 (ints (sizesL l))) (hN : Nib w)
    (entT : ∀ args w, (callFunc ft args).run Tryz.prog w = .ok (.enter ft args) w) (entM : ∀ args w, (callFunc fm args).run Tryz.prog w = .ok (.enter fm args) w)
    (htell : ∀ W, Below w.heap.size w W → Calls Tryz.prog ft (#[.agg cs.toArray] ++ ct) W (TellPostC W m (numsL l)))
    (hmay : ∀ W gl c, m ≤ c → c ≤ maxLen → Below w.heap.size w W → W.rangeAt gl 0 (ints (numsL l)) → Calls Tryz.prog fm (#[.slice (some ⟨gl, 0, none⟩) m c] ++ cm) W fun e W' => e = .returned (.bool true) ∧ Below W.heap.size W W') :
    Calls Tryz.prog 65 #[.agg #[.int .i64 (k : Int), .slice (some ⟨gs, 0, none⟩) m cl, .func (.func ft) #[] ct, .func (.func fm) #[] cm, bv], .agg cs.toArray] w
      fun e w' => e = .returned (.tuple #[.agg (bkC (sectB k l)).toArray, .int .i64 0]) ∧ Below w.heap.size w w' := by
  have H := Lib.hid (And.intro hs (And.intro hN (And.intro htell (And.intro hmay (And.intro hk (And.intro hl hm))))))
  have HC := Lib.hid hcs
  clear hs hN htell hmay hk hl hm hcs
  have hr : ((w.alloc (.cells #[.int .i64 (k : Int), .slice (some ⟨gs, 0, none⟩) m cl, .func (.func ft) #[] ct, .func (.func fm) #[] cm, bv] 137)).alloc (.cells cs.toArray 40)).rangeAt (w.heap.size + 1) 0 cs := range_of_block (heap_alloc_last _ _ (by simp))
  go_enter Tryz.func65, Tryz.ntmps65
  go_wp2_with (first
    | (refine wpList_load_mid rfl _ _ rfl _ _ rfl _ _ (World.rangeAt_alloc hr _) Tryz.underlying40 rfl HC.out ?_)
    | fail)
  show Calls _ _ _ (((w.alloc (.cells #[.int .i64 (k : Int), .slice (some ⟨gs, 0, none⟩) m cl, .func (.func ft) #[] ct, .func (.func fm) #[] cm, bv] 137)).alloc (.cells cs.toArray 40)).alloc (.cells (bkC zB).toArray 54)) _
  obtain ⟨h1, h2, h3, h4, h5⟩ := three_new w (.cells #[.int .i64 (k : Int), .slice (some ⟨gs, 0, none⟩) m cl, .func (.func ft) #[] ct, .func (.func fm) #[] cm, bv] 137) (.cells cs.toArray 40) (.cells (bkC zB).toArray 54)
  clear hr
  generalize ((w.alloc (.cells #[.int .i64 (k : Int), .slice (some ⟨gs, 0, none⟩) m cl, .func (.func ft) #[] ct, .func (.func fm) #[] cm, bv] 137)).alloc (.cells cs.toArray 40)).alloc (.cells (bkC zB).toArray 54) = w3 at *
  refine (H.out.2.2.1 w3 (Upd.below h5)).mono ?_
  rintro e w4 ⟨gl, c4, rfl, hc4, hc5, hr4, hb4⟩
  have hu4 : Upd (fun _ => False) w3 w4 := Upd.of_below hb4
  have f1 := (hu4.block _ (lt_of_block h1) (fun h => h)).trans h1
  have f3 := (hu4.block _ (lt_of_block h3) (fun h => h)).trans h3
  have m3 : w4.cell? ⟨w.heap.size, 3, none⟩ = some (.func (.func fm) #[] cm) := cell_of_block f1 3
  have H4 := Lib.hid (And.intro hr4 (And.intro (h5.trans hu4) (And.intro f1 (And.intro f3 h4))))
  clear h1 h2 h3 h4 h5 hr4 hb4 hu4 f1 f3
  go_wp2_with fail
  refine (H.out.2.2.2.1 w4 gl c4 hc4 hc5 (Upd.below H4.out.2.1) H4.out.1).mono ?_
  rintro e w5 ⟨rfl, hb5⟩
  have hu5 : Upd (fun _ => False) w4 w5 := Upd.of_below hb5
  obtain ⟨r4, u4, f1, f3, z4⟩ := H4.out
  have r5 := hu5.range r4 (fun h => h)
  have g1 := (hu5.block _ (lt_of_block f1) (fun h => h)).trans f1
  have g3 := (hu5.block _ (lt_of_block f3) (fun h => h)).trans f3
  have m0 : w5.cell? ⟨w.heap.size, 0, none⟩ = some (.int .i64 (k : Int)) := cell_of_block g1 0
  have z5 : w.heap.size + 3 ≤ w5.heap.size := by have h1 := lt_of_block g3; have h2 := hu5.size; have h3 := u4.size; have h4 := lt_of_block f3; have h5 := z4; have h6 := H4.out.2.2.2.2; omega
  have H5 := Lib.hid (And.intro r5 (And.intro (u4.trans hu5) (And.intro g1 g3)))
  clear r4 u4 f1 f3 z4 r5 g1 g3 hu5 hb5 m3
  go_wp2_with fail
  generalize hM : w.heap.size = M at *
  have HM := Lib.hid hM
  clear hM
  refine wp_region_held_drew (S := fun W => W.cell? ⟨M, 0, none⟩ = some (.int .i64 (k : Int))) (by kernel_rfl) (by rw [World.cell?_drew]; exact m0) (fun hHeld => ?_)
  refine wpAnyH_take (i := 1) (v := ?_) rfl (by kernel_rfl) (by kernel_rfl) (by kernel_rfl) (fun _ _ _ h => h) (Or.inl ⟨by rfl, ?_⟩) hHeld ?_
  rotate_left
  · intro W hSw; (try dsimp only at hSw); (try go_split_ands); go_simp; (try with_reducible rfl)
  simp only [Act.put, List.setIfInBounds_toArray]
  refine wpAnyH_take (i := 2) (v := ?_) rfl (by kernel_rfl) (by kernel_rfl) (by kernel_rfl) (fun _ _ _ h => h) (Or.inl ⟨by rfl, ?_⟩) hHeld ?_
  rotate_left
  · intro W hSw; (try dsimp only at hSw); (try go_split_ands); go_simp; (try with_reducible rfl)
  simp only [Act.put]
  refine Wl.r 0 (fun K hK => ?_)
  go_simp
  refine (wwrite _).mono ?_
  rintro e w6 ⟨g, rfl, hW, hge, hB⟩
  have hge' : w5.heap.size ≤ g := hge
  refine hK.out _ _ ((Upd.of_below (S := fun _ => False) hB).cellv hHeld (fun h => h)) (fun hHeld2 => ?_)
  clear hK K
  refine Wl.r 3 (fun K hK => ?_)
  go_simp
  refine (wput hW k 1 (by decide) (by decide) (by have := H.out.2.2.2.2.1; omega) (by decide)).mono ?_
  rintro e w7 ⟨rfl, hW2, hU⟩
  refine hK.out _ _ (hU.cellv hHeld2 (by omega)) (fun hHeld3 => ?_)
  clear hK K
  refine Wl.r 4 (fun K hK => ?_)
  go_simp
  refine hK.out _ _ (hHeld3) (fun _ => ?_)
  clear hK K
  refine Wl.d ?_
  obtain ⟨r5, u5, g1, g3⟩ := H5.out
  obtain ⟨hs, hN, -, -, hk, hl, hm⟩ := H.out
  have u57 : Upd (fun j => j = g) w5 w7 := ((Upd.of_below (S := fun _ => False) (bundrew' hB)).mono (fun _ _ h => h.elim)).trans hU
  have glt : gl < w5.heap.size ∨ m = 0 := by
    rcases Nat.eq_zero_or_pos m with h | h
    · exact .inr h
    · exact .inl (World.block_lt_of_cell? w5 _ (r5 0 _ (numsL_get (by omega))))
  have nM : w.heap.size = M := HM.out
  have gslt : gs < w.heap.size ∨ m = 0 := by
    rcases Nat.eq_zero_or_pos m with h | h
    · exact .inr h
    · exact .inl (World.block_lt_of_cell? w _ (hs 0 _ (sizesL_get (by omega))))
  have ws5 := u5.size
  have m1 : w7.cell? ⟨M, 1, none⟩ = some (.slice (some ⟨gs, 0, none⟩) m cl) := u57.cellv (cell_of_block g1 1) (by omega)
  have g3' := (u57.block (M + 1 + 1) (lt_of_block g3) (by omega)).trans g3
  have hN7 : Nib w7 := ((hN.keep u5 (fun h => h)).keep u57 (by have := hN.lt; omega))
  have hlow : Below M w w7 := below_upd (by rw [← nM]; exact Upd.below u5) u57 (by rw [← nM]; exact Nat.le_refl _) (fun k e => by omega)
  have hr7 : ∀ i (hi : i < l.length) W, Upd (fun j => j = g) w7 W → W.cell? ⟨gl, 0 + i, none⟩ = some (.int .i64 (l[i].1 : Int)) := fun i hi W hW => hW.cellv (u57.cellv (r5 i _ (numsL_get hi)) (by omega)) (by omega)
  have hs7 : ∀ i (hi : i < l.length) W, Upd (fun j => j = g) w7 W → W.cell? ⟨gs, 0 + i, none⟩ = some (.int .i64 (l[i].2 : Int)) := fun i hi W hW => hW.cellv (u57.cellv ((u5.range hs (fun h => h)) i _ (sizesL_get hi)) (by omega)) (by omega)
  have H7 := Lib.hid (And.intro hr7 (And.intro hs7 (And.intro m1 (And.intro g3' (And.intro hN7 (And.intro hlow (And.intro hl (And.intro hm hW2))))))))
  have hgeM : M ≤ g := by omega
  have hgM : ¬ M = g := by omega
  have hgM2 : ¬ M + 1 + 1 = g := by omega
  have hMw := lt_of_block g3'
  rename_i hx
  clear hx hHeld hHeld2 hHeld3 hW hge hB hU hW2 hN hs hk hl hm r5 u5 g1 g3 u57 glt gslt nM ws5 m1 g3' hN7 hlow hr7 hs7 m0
  go_wp2
  go_loopw [26] (fun s26 wr => ∃ i : Nat, i ≤ m ∧ s26 = .int .i64 i ∧ WrAt wr g (lowB k 1 ++ encB (l.take i)) ∧ Upd (fun j => j = g) w7 wr) (fun s26 _ => m - (intOf s26).toNat)
  case atStart => exact ⟨0, Nat.zero_le _, rfl, by simpa [encB] using H7.out.2.2.2.2.2.2.2.2, Upd.refl _ _⟩
  case round =>
    obtain ⟨i, hi, rfl, hW, hu⟩ := hrel
    by_cases hlt : i < m
    · obtain ⟨hr7, hs7, m1, g3', hN7, hlow, hl, hm, -⟩ := H7.out
      have hil : i < l.length := by omega
      have x1 := hr7 i hil wr hu
      have x2 := hs7 i hil wr hu
      have x3 := hu.cellv m1 hgM
      rw [Nat.zero_add] at x1 x2
      have hfit := hl.1 l[i] (List.getElem_mem hil)
      have hsz := sizes_take l hil
      have hts : Hid (encB (l.take (i + 1)) = encB (l.take i) ++ lowB l[i].1 l[i].2) := by show _ = _; rw [List.take_succ_eq_append_getElem hil, encB_snoc]
      have hlen : (lowB k 1 ++ encB (l.take i)).length + l[i].2 ≤ 60 := by
        rw [List.length_append, lowB_len, encB_len]; have := hl.2; omega
      have b1 : (0 : Int) ≤ (i : Int) ∧ (i : Int) < (m : Int) := by omega
      have HX := Lib.hid (And.intro hW (And.intro hu (And.intro hfit hlen)))
      clear hr7 hs7 m1 g3' hN7 hlow hl hm hW hu hfit hsz hlen
      obtain ⟨b1, b2⟩ := b1
      generalize l[i] = p at *
      go_wp2_with fail
      refine (wput HX.out.1 p.1 p.2 HX.out.2.2.1.2.1 HX.out.2.2.1.2.2 HX.out.2.2.1.1 HX.out.2.2.2).mono ?_
      rintro e w8 ⟨rfl, hW8, hU8⟩
      have HZ := Lib.hid (And.intro hW8 hU8)
      clear hW8 hU8
      go_wp2
      go_roundw
      case rel => exact ⟨i + 1, by omega, by go_num, by rw [hts.out, ← List.append_assoc]; exact HZ.out.1, HX.out.2.1.trans HZ.out.2⟩
      case measure => simp [intOf]; omega
    · obtain rfl : i = m := by omega
      obtain ⟨hr7, hs7, m1, g3', hN7, hlow, hl, hm, -⟩ := H7.out
      have hN8 := hN7.keep hu (by have := (H.out.2.1).lt; have := HM.out; omega)
      rw [List.take_of_length_le (by omega)] at hW
      have hg3 := (hu.block (M + 1 + 1) (lt_of_block g3') hgM2).trans g3'
      have hlen : Hid ((sectB k l).length = 64) := sectB_len hl.2
      have HX := Lib.hid (And.intro hW (And.intro hN8 (And.intro hu (And.intro hg3 (And.intro hlow hl)))))
      have hus := hu.size
      clear hr7 hs7 m1 g3' hN7 hlow hl hm hW hu hN8 hg3
      go_wp2_with fail
      refine (wseal HX.out.1 HX.out.2.1).mono ?_
      rintro e w9 ⟨rfl, hb9⟩
      have hg9 := (hb9.block (M + 1 + 1) (lt_of_block HX.out.2.2.2.1)).trans HX.out.2.2.2.1
      have hth : w9.there (M + 1 + 1) 0 64 := fun j hj => by
        rw [cell_of_block hg9, frozen_of_block hg9]
        exact ⟨by rw [Nat.zero_add, Array.getElem?_eq_getElem (by rw [bkC_size _ zB_len]; exact hj)]; rfl, rfl⟩
      have hbl : Hid (Below M w w9) := (below_upd HX.out.2.2.2.2.1 HX.out.2.2.1 (by have := HM.out; omega) (fun k e => by omega)).trans (hb9.mono (by omega))
      have hsl := hlen.out
      have hst : w9.there (M + 1 + 1) 0 (bkC (sectB k l)).toArray.size := by rw [bkC_size _ hsl]; exact hth
      have hst2 : w9.there (M + 1 + 1) 0 (bkC (sectB k l)).length := by rw [bkC_len, hsl]; exact hth
      have hsz2 : (Tryz.prog.info? 54).map (·.size) = some (bkC (sectB k l)).toArray.size := by rw [bkC_size _ hsl]; exact sizeBk'
      have HST := Lib.hid (And.intro hst (And.intro hsz2 (And.intro hst2 hsl)))
      clear hst hsz2 hst2 hsl hg9 hth hb9 hlen
      rw [show sealB (padB (lowB k 1 ++ encB l)) = sectB k l from rfl]
      generalize hsb : sectB k l = sb at *
      have Hsb := Lib.hid hsb
      clear hsb
      go_wp2_with (first
        | (refine wpList_store_mid rfl _ _ _ rfl _ _ (bkC sb).toArray rfl rfl HST.out.1 HST.out.2.1 (all_oneCell_toArray (bkC_one _)) ?_)
        | fail)
      refine bodyPost_ret (results_mid2 rfl _ _ (M + 1 + 1) 0 (bkC sb) _ rfl (World.rangeAt_setCells_same _ _ _ _ HST.out.2.2.1) Tryz.underlying54 rfl (sizeBk _ HST.out.2.2.2)) rfl
          ⟨by rw [Hsb.out]; rfl, ?_⟩
      rw [HM.out]
      exact below_upd hbl.out (upd_row w9 (M + 1 + 1) 0 _) (by have := HM.out; omega) (fun k e => by omega)
set_option maxRecDepth 100000 in
set_option maxHeartbeats 2000000 in
theorem putS_no {w : World} (k : Nat) (xs : List Int) (m : Nat) (gs cl : Nat) (ft fm : Nat) (ct cm : Array Value) (bv : Value) (_hbv : bv.oneCell' = true) (cs : List Value)
    (hcs : (Tryz.prog.info? 40).map (·.size) = some cs.length) 
    (entT : ∀ args w, (callFunc ft args).run Tryz.prog w = .ok (.enter ft args) w) (entM : ∀ args w, (callFunc fm args).run Tryz.prog w = .ok (.enter fm args) w)
    (htell : ∀ W, Below w.heap.size w W → Calls Tryz.prog ft (#[.agg cs.toArray] ++ ct) W (TellPostC W m xs))
    (hmay : ∀ W gl c, m ≤ c → c ≤ maxLen → Below w.heap.size w W → W.rangeAt gl 0 (ints xs) → Calls Tryz.prog fm (#[.slice (some ⟨gl, 0, none⟩) m c] ++ cm) W fun e W' => e = .returned (.bool false) ∧ Below W.heap.size W W') :
    Calls Tryz.prog 65 #[.agg #[.int .i64 (k : Int), .slice (some ⟨gs, 0, none⟩) m cl, .func (.func ft) #[] ct, .func (.func fm) #[] cm, bv], .agg cs.toArray] w
      fun e w' => e = .returned (.tuple #[bkV zB, .int .i64 10]) ∧ Below w.heap.size w w' := by
  have H := Lib.hid (And.intro htell hmay)
  have HC := Lib.hid hcs
  clear htell hmay hcs
  have hr : ((w.alloc (.cells #[.int .i64 (k : Int), .slice (some ⟨gs, 0, none⟩) m cl, .func (.func ft) #[] ct, .func (.func fm) #[] cm, bv] 137)).alloc (.cells cs.toArray 40)).rangeAt (w.heap.size + 1) 0 cs := range_of_block (heap_alloc_last _ _ (by simp))
  go_enter Tryz.func65, Tryz.ntmps65
  go_wp2_with (first
    | (refine wpList_load_mid rfl _ _ rfl _ _ rfl _ _ (World.rangeAt_alloc hr _) Tryz.underlying40 rfl HC.out ?_)
    | fail)
  show Calls _ _ _ (((w.alloc (.cells #[.int .i64 (k : Int), .slice (some ⟨gs, 0, none⟩) m cl, .func (.func ft) #[] ct, .func (.func fm) #[] cm, bv] 137)).alloc (.cells cs.toArray 40)).alloc (.cells (bkC zB).toArray 54)) _
  obtain ⟨h1, h2, h3, h4, h5⟩ := three_new w (.cells #[.int .i64 (k : Int), .slice (some ⟨gs, 0, none⟩) m cl, .func (.func ft) #[] ct, .func (.func fm) #[] cm, bv] 137) (.cells cs.toArray 40) (.cells (bkC zB).toArray 54)
  clear hr
  generalize ((w.alloc (.cells #[.int .i64 (k : Int), .slice (some ⟨gs, 0, none⟩) m cl, .func (.func ft) #[] ct, .func (.func fm) #[] cm, bv] 137)).alloc (.cells cs.toArray 40)).alloc (.cells (bkC zB).toArray 54) = w3 at *
  refine (H.out.1 w3 (Upd.below h5)).mono ?_
  rintro e w4 ⟨gl, c4, rfl, hc4, hc5, hr4, hb4⟩
  have hu4 : Upd (fun _ => False) w3 w4 := Upd.of_below hb4
  have f1 := (hu4.block _ (lt_of_block h1) (fun h => h)).trans h1
  have f3 := (hu4.block _ (lt_of_block h3) (fun h => h)).trans h3
  have m3 : w4.cell? ⟨w.heap.size, 3, none⟩ = some (.func (.func fm) #[] cm) := cell_of_block f1 3
  have H4 := Lib.hid (And.intro hr4 (And.intro (h5.trans hu4) (And.intro f1 (And.intro f3 h4))))
  clear h1 h2 h3 h4 h5 hr4 hb4 hu4 f1 f3
  go_wp2_with fail
  refine (H.out.2 w4 gl c4 hc4 hc5 (Upd.below H4.out.2.1) H4.out.1).mono ?_
  rintro e w5 ⟨rfl, hb5⟩
  have hu5 : Upd (fun _ => False) w4 w5 := Upd.of_below hb5
  obtain ⟨r4, u4, f1, f3, z4⟩ := H4.out
  have g3 := (hu5.block _ (lt_of_block f3) (fun h => h)).trans f3
  have hth : w5.there (w.heap.size + 1 + 1) 0 64 := fun j hj => by
    rw [cell_of_block g3, frozen_of_block g3]
    exact ⟨by rw [Nat.zero_add, Array.getElem?_eq_getElem (by rw [bkC_size _ zB_len]; exact hj)]; rfl, rfl⟩
  obtain ⟨z, Hz⟩ : ∃ z : Bk, Hid (z = zB) := ⟨zB, rfl⟩
  have hst : w5.there (w.heap.size + 1 + 1) 0 (bkC z).toArray.size := by rw [Hz.out, bkC_size _ zB_len]; exact hth
  have hst2 : w5.there (w.heap.size + 1 + 1) 0 (bkC z).length := by rw [Hz.out, bkC_len, zB_len]; exact hth
  have hsz2 : (Tryz.prog.info? 54).map (·.size) = some (bkC z).toArray.size := by rw [Hz.out, bkC_size _ zB_len]; exact sizeBk'
  have HST := Lib.hid (And.intro hst (And.intro hsz2 hst2))
  have HU := Lib.hid (u4.trans hu5)
  clear r4 u4 f1 f3 z4 hst hst2 hsz2 hth hu5 hb5 g3 m3
  go_wp2_with (first
      | (refine wpList_store_mid rfl _ _ _ rfl _ _ (bkC z).toArray rfl (by rw [Hz.out]; rfl) HST.out.1 HST.out.2.1 (all_oneCell_toArray (bkC_one _)) ?_)
      | fail)
  exact bodyPost_ret (results_mid2 rfl _ _ (w.heap.size + 1 + 1) 0 (bkC z) _ rfl (World.rangeAt_setCells_same _ _ _ _ HST.out.2.2) Tryz.underlying54 rfl (by rw [Hz.out]; exact sizeBk zB zB_len)) rfl
    ⟨by rw [Hz.out]; rfl, below_upd (Upd.below HU.out) (upd_row w5 (w.heap.size + 1 + 1) 0 _) (Nat.le_refl _) (fun k e => by omega)⟩
def szS : List Nat := [6, 2, 2, 2, 2, 2, 1]
def formSV (gs gt : Nat) : Value := .agg #[.int .i64 1, .slice (some ⟨gs, 0, none⟩) 7 7, .func (.func 125) #[] #[], .func (.func 196) #[] #[.pointer (some ⟨gt, 0, none⟩)], .func (.func 127) #[] #[]]
def FormS (w : World) (gs gt : Nat) : Prop := w.rangeAt gs 0 (ints (natsI szS)) ∧ Bnd w (.func (.func 196) #[] #[.pointer (some ⟨gt, 0, none⟩)]) bndS
theorem infoFoS : (Tryz.prog.info? 137).map (·.size) = some 5 := by kernel_rfl
theorem infoThS : (Tryz.prog.info? 40).map (·.size) = some 7 := by kernel_rfl
set_option maxRecDepth 100000 in
set_option maxHeartbeats 1000000 in
theorem supers_any (w : World) : Calls Tryz.prog 66 #[] w fun e w' => ∃ gs gt, e = .returned (formSV gs gt) ∧ FormS w' gs gt ∧ Below w.heap.size w w' := by
  have hmf : ∀ (fn : Fn) (first cap : Array Value) (w : World), (Instr.makeFunc fn first cap).run Tryz.prog w = .ok (.func fn first cap) w := fun _ _ _ _ => rfl
  go_enter Tryz.func66, Tryz.ntmps66
  go_wp2_with fail
  refine (within_ok).mono ?_
  rintro e w1 ⟨rfl, rfl⟩
  go_wp2
  obtain ⟨h1, h2, h3, h4, h5, h6⟩ := four_new w (.cells #[.int .i64 1, .slice (some ⟨w.heap.size + 1, 0, none⟩) 7 7, .func (.func 125) #[] #[], .func (.func 196) #[] #[.pointer (some ⟨w.heap.size + 1 + 1 + 1, 0, none⟩)], .func (.func 127) #[] #[]] 137) (.cells (ints (natsI szS)).toArray 3)
    (.cells (bndC bndS).toArray 219) (.cells #[.slice (some ⟨w.heap.size + 1 + 1, 0, none⟩) 7 7] 321)
  refine bodyPost_ret (results_mid1 rfl _ _ w.heap.size 0 [.int .i64 1, .slice (some ⟨w.heap.size + 1, 0, none⟩) 7 7, .func (.func 125) #[] #[], .func (.func 196) #[] #[.pointer (some ⟨w.heap.size + 1 + 1 + 1, 0, none⟩)], .func (.func 127) #[] #[]] _ rfl (range_of_block h1) Tryz.underlying137 rfl infoFoS) rfl
    ⟨w.heap.size + 1, w.heap.size + 1 + 1 + 1, rfl, ⟨range_of_block h2, w.heap.size + 1 + 1 + 1, w.heap.size + 1 + 1, 7, rfl, cell_of_block h4 0, range_of_block h3⟩, Upd.below h6⟩
def sectS (xs : List Int) : Bk := sectB 1 (numL szS xs)
theorem sectS_len {xs : List Int} (h : xs.length = 7) : (sectS xs).length = 64 := sectB_len (by rw [numL_sizes (by rw [h]; rfl)]; decide)
def PutSPost (w : World) (xs : List Int) (e : Ending) (w' : World) : Prop :=
  ((mayS xs = true ∧ e = .returned (.tuple #[.agg (bkC (sectS xs)).toArray, .int .i64 0])) ∨ (mayS xs = false ∧ e = .returned (.tuple #[.agg (bkC zB).toArray, .int .i64 10]))) ∧ Below w.heap.size w w'
set_option maxRecDepth 100000 in
theorem putS_any {w : World} {gs gt : Nat} (hF : FormS w gs gt) (hN : Nib w) (cs : List Value) (hcs : cs.length = 7) (xs : List Int) (hxl : xs.length = 7)
    (htell : ∀ W, Calls Tryz.prog 125 #[.agg cs.toArray] W (TellPostC W 7 xs)) :
    Calls Tryz.prog 65 #[formSV gs gt, .agg cs.toArray] w (PutSPost w xs) := by
  obtain ⟨hs, hB⟩ := hF
  have hcz : (Tryz.prog.info? 40).map (·.size) = some cs.length := by rw [hcs]; exact infoThS
  have htell' : ∀ W, Below w.heap.size w W → Calls Tryz.prog 125 (#[.agg cs.toArray] ++ #[]) W (TellPostC W 7 xs) := fun W _ => htell W
  have hmay : ∀ W gl cc, 7 ≤ cc → cc ≤ maxLen → Below w.heap.size w W → W.rangeAt gl 0 (ints xs) → Calls Tryz.prog 196 (#[.slice (some ⟨gl, 0, none⟩) 7 cc] ++ #[.pointer (some ⟨gt, 0, none⟩)]) W fun e W' => e = .returned (.bool (mayS xs)) ∧ Below W.heap.size W W' := fun W gl cc hc hc2 hW hr =>
    mayS_any xs hxl hc hc2 (hB.below hW) hr
  cases hm : mayS xs with
  | false =>
    rw [hm] at hmay
    exact (putS_no (w := w) 1 xs 7 gs 7 125 196 #[] #[.pointer (some ⟨gt, 0, none⟩)] (.func (.func 127) #[] #[]) rfl cs hcz (fun _ _ => rfl) (fun _ _ => rfl) htell' hmay).mono
      (fun e w' ⟨he, hb⟩ => ⟨.inr ⟨hm, he⟩, hb⟩)
  | true =>
    rw [hm] at hmay
    obtain ⟨h0, hfit⟩ := mayS_fits hxl hm
    have e : numsL (numL szS xs) = xs := numL_nums (by rw [hxl]; rfl) h0
    rw [← e] at htell' hmay
    exact (putS_yes (w := w) 1 (by decide) (numL szS xs) hfit 7 (by rw [numL_len (by rw [hxl]; rfl)]; rfl) (by decide) gs 7 125 196 #[] #[.pointer (some ⟨gt, 0, none⟩)] (.func (.func 127) #[] #[]) rfl cs hcz (by rw [numL_szs (by rw [hxl]; rfl)]; exact hs) hN (fun _ _ => rfl) (fun _ _ => rfl) htell' hmay).mono
      (fun e w' ⟨he, hb⟩ => ⟨.inl ⟨hm, he⟩, hb⟩)
set_option maxRecDepth 100000 in
set_option maxHeartbeats 1000000 in
theorem PutS_any {w : World} (hN : Nib w) (cs : List Value) (hcs : cs.length = 7) (xs : List Int) (hxl : xs.length = 7)
    (htell : ∀ W, Calls Tryz.prog 125 #[.agg cs.toArray] W (TellPostC W 7 xs)) :
    Calls Tryz.prog 19 #[.agg cs.toArray] w (PutSPost w xs) := by
  have HN := Lib.hid (And.intro hN htell)
  have hcz : (Tryz.prog.info? 40).map (·.size) = some cs.length := by rw [hcs]; exact infoThS
  have HC := Lib.hid hcz
  have hr : ((w.alloc (.cells cs.toArray 40)).alloc (.cells (bkC zB).toArray 54)).rangeAt w.heap.size 0 cs := World.rangeAt_alloc (range_of_block (heap_alloc_last w _ rfl)) _
  clear hN htell hcz
  go_enter Tryz.func19, Tryz.ntmps19
  go_wp2_with fail
  change Code.wp _ _ _ _ ((w.alloc (.cells cs.toArray 40)).alloc (.cells (bkC zB).toArray 54))
  have hg : ((w.alloc (.cells cs.toArray 40)).alloc (.cells (bkC zB).toArray 54)).heap[w.heap.size + 1]? = some (.cells (bkC zB).toArray 54) := heap_alloc_last _ _ (by simp)
  have hu : Upd (fun _ => False) w ((w.alloc (.cells cs.toArray 40)).alloc (.cells (bkC zB).toArray 54)) := ((Upd.refl _ w).alloc _).alloc _
  generalize (w.alloc (.cells cs.toArray 40)).alloc (.cells (bkC zB).toArray 54) = w2 at *
  have hb2 : Below w.heap.size w w2 := Upd.below hu
  refine wp_region_held_drew (S := fun W => W.rangeAt w.heap.size 0 cs) (by kernel_rfl) (by rw [World.rangeAt_drew]; exact hr) (fun hHeld => ?_)
  refine' wpAnyH_take (i := 1) rfl (by kernel_rfl) (by kernel_rfl) (by kernel_rfl) (fun _ _ _ h => h) (yieldsIf_load_mid (by rfl) _ _ rfl _ _ rfl _ _ (fun w h => h) Tryz.underlying40 rfl HC.out) hHeld _
  simp only [List.getElem_toArray, List.getElem_cons_succ, List.getElem_cons_zero, Act.put, List.setIfInBounds_toArray, List.set_cons_zero, List.set_cons_succ]
  refine wpAnyH_ready (rs := [0]) (by kernel_rfl) (by simp) ?_
  refine AllReadyH.cons rfl (fun K hK => ?_) AllReadyH.nil
  go_simp
  refine (supers_any _).mono ?_
  rintro e w3 ⟨gs, gt, rfl, hF, hb3⟩
  have hb3' : Below w2.heap.size w2 w3 := bundrew' hb3
  refine hK.out _ _ (Below.range hb3 hHeld) (fun hHeld2 => ?_)
  clear hK K
  refine wpAnyH_ready (rs := [2]) (by kernel_rfl) (by simp) ?_
  refine AllReadyH.cons rfl (fun K hK => ?_) AllReadyH.nil
  go_simp
  refine (putS_any hF ((HN.out.1.keep hu (fun h => h)).below hb3') cs hcs xs hxl HN.out.2).mono ?_
  rintro e w4 ⟨he, hb4⟩
  have hb4' : Below w2.heap.size w2 w4 := hb3'.trans (hb4.mono hb3'.size)
  have hg4 := (hb4'.block _ (lt_of_block hg)).trans hg
  have hth : w4.there (w.heap.size + 1) 0 64 := fun j hj => by
    rw [cell_of_block hg4, frozen_of_block hg4]
    exact ⟨by rw [Nat.zero_add, Array.getElem?_eq_getElem (by rw [bkC_size _ zB_len]; exact hj)]; rfl, rfl⟩
  obtain ⟨y, cd, hy, hres, rfl⟩ : ∃ (y : Bk) (cd : Int), y.length = 64 ∧ ((mayS xs = true ∧ y = sectS xs ∧ cd = 0) ∨ (mayS xs = false ∧ y = zB ∧ cd = 10)) ∧ e = .returned (.tuple #[.agg (bkC y).toArray, .int .i64 cd]) := by
    rcases he with ⟨hm, rfl⟩ | ⟨hm, rfl⟩
    · exact ⟨_, 0, sectS_len hxl, .inl ⟨hm, rfl, rfl⟩, rfl⟩
    · exact ⟨_, 10, zB_len, .inr ⟨hm, rfl, rfl⟩, rfl⟩
  have HR := Lib.hid (And.intro hy hres)
  clear he hy hres
  have hst : w4.there (w.heap.size + 1) 0 (bkC y).toArray.size := by rw [bkC_size _ HR.out.1]; exact hth
  have hst2 : w4.there (w.heap.size + 1) 0 (bkC y).length := by rw [bkC_len, HR.out.1]; exact hth
  have hsz2 : (Tryz.prog.info? 54).map (·.size) = some (bkC y).toArray.size := by rw [bkC_size _ HR.out.1]; exact sizeBk'
  refine hK.out _ _ (Below.range hb4 hHeld2) (fun hHeld3 => ?_)
  clear hK K
  refine wpAnyH_take (i := 3) (v := ?_) rfl (by kernel_rfl) (by kernel_rfl) (by kernel_rfl) (fun _ _ _ h => h) (Or.inl ⟨by rfl, ?_⟩) hHeld3 ?_
  rotate_left
  · intro W hSw; (try dsimp only at hSw); (try go_split_ands); go_simp; (try with_reducible rfl)
  simp only [List.getElem_toArray, List.getElem_cons_succ, List.getElem_cons_zero, Act.put, List.setIfInBounds_toArray, List.set_cons_zero, List.set_cons_succ]
  refine wpAnyH_take (i := 4) (v := ?_) rfl (by kernel_rfl) (by kernel_rfl) (by kernel_rfl) (fun _ _ _ h => h) (Or.inl ⟨by rfl, ?_⟩) hHeld3 ?_
  rotate_left
  · intro W hSw; (try dsimp only at hSw); (try go_split_ands); go_simp; (try with_reducible rfl)
  simp only [List.getElem_toArray, List.getElem_cons_succ, List.getElem_cons_zero, Act.put, List.setIfInBounds_toArray, List.set_cons_zero, List.set_cons_succ]
  have hU5 : Below w.heap.size w (w4.setCells (w.heap.size + 1) 0 (bkC y)) := below_upd (hb2.trans (hb4'.mono hu.size)) (upd_row w4 (w.heap.size + 1) 0 _) (Nat.le_refl _) (fun k e => by omega)
  refine wpAnyH_ready (rs := [5]) (by kernel_rfl) (by simp) ?_
  refine AllReadyH.cons rfl (fun K hK => ?_) AllReadyH.nil
  rw [if_pos (by rfl)]
  refine wp_store_mid _ _ _ rfl _ _ (List.toArray _) rfl rfl (hst) (hsz2) (all_oneCell_toArray (bkC_one _)) ?_
  simp only [Act.put, List.setIfInBounds_toArray]
  refine hK.out _ _ ((upd_row w4 (w.heap.size + 1) 0 (bkC y)).range hHeld3 (by omega)) (fun hHeld4 => ?_)
  clear hK K
  refine wpAnyH_ready (rs := [6]) (by kernel_rfl) (by simp) ?_
  refine AllReadyH.cons rfl (fun K hK => ?_) AllReadyH.nil
  go_simp
  refine hK.out _ _ (hHeld4) (fun _ => ?_)
  clear hK K
  refine wpAnyH_done (by kernel_rfl) ?_ _
  have HE := Lib.hid (And.intro hU5 hst2)
  clear hst hst2 hsz2 hU5 hth hg4 hb4 hb4' hb3 hb3' hHeld hHeld2 hHeld3 hHeld4 hF hr hg hu hb2
  go_wp2
  refine bodyPost_ret (results_mid2 rfl _ _ (w.heap.size + 1) 0 (bkC y) _ rfl (World.rangeAt_setCells_same _ _ _ _ HE.out.2) Tryz.underlying54 rfl (sizeBk _ HR.out.1)) rfl ⟨?_, HE.out.1⟩
  rcases HR.out.2 with ⟨hm, rfl, rfl⟩ | ⟨hm, rfl, rfl⟩
  · exact .inl ⟨hm, rfl⟩
  · exact .inr ⟨hm, rfl⟩
theorem superC_one (id bl sl jo pa lo ba : Int) : ∀ v ∈ superC id bl sl jo pa lo ba, v.oneCell' = true := by
  intro v hv
  simp only [superC, List.mem_cons, List.not_mem_nil, or_false] at hv
  rcases hv with rfl | rfl | rfl | rfl | rfl | rfl | rfl <;> rfl
theorem madeMaps (n : Nat) : madeCells #[Value.map none] (n * 1) = Array.replicate n (Value.map none) := by
  apply Array.ext
  · simp [size_madeCells]
  · intro i h1 h2
    have : i % 1 = 0 := Nat.mod_one i
    simp [madeCells, this]
theorem infoSet : (Tryz.prog.info? 331).map (fun i => (i.zero, i.size, i.bytes)) = some (some (.map none), 1, 8) := by kernel_rfl
structure LgTo (W w : World) (g n k : Nat) (M : List (Nat × (Int → Bool))) : Prop where
  sl : Sl w 331 1 (.slice (some ⟨g, 0, none⟩) n n) n (LgC M ++ List.replicate (n - k) (.map none))
  len : M.length = k
  sets : ∀ p ∈ M, SetAt w p.1 4097 p.2 ∧ p.2 = fun _ => false
  nd : (M.map (·.1)).Nodup
  lo : ∀ p ∈ M, W.heap.size + 2 ≤ p.1
set_option maxRecDepth 100000 in
theorem lnew_ok {S : Nat → Prop} (n bl : Nat) (w : World) (hn : ∀ j, w.heap.size ≤ j → S j) (h1 : 1 ≤ n) (h2 : n ≤ 1024) (h3 : 1 ≤ bl) (h4 : bl ≤ 4096) :
    Calls Tryz.prog 134 #[.int .i64 (n : Int), .int .i64 (bl : Int)] w fun e w' => ∃ b, e = .returned (.tuple #[.pointer (some ⟨b, 0, none⟩), .int .i64 0]) ∧
      Lg S w' b bl (List.replicate n (fun _ => false)) ∧ Below w.heap.size w w' ∧ w.heap.size ≤ b := by
  obtain ⟨i0, hi, hz0, hz1, hz2⟩ := info_parts infoSet
  have hmm := @run_makeMap Tryz.prog
  have hmk : ∀ w : World, (Instr.makeSlice 328 (.int .i64 n) (.int .i64 n)).run Tryz.prog w = .ok (.slice (some ⟨w.heap.size, 0, none⟩) n n) (w.alloc (.cells (Array.replicate n (Value.map none)) 331)) := by
    intro w
    have := run_make (P := Tryz.prog) w 328 331 i0 (.map none) Tryz.underlying328 hi hz0 .i64 .i64 n n (by omega) (by omega) (by rw [hz2]; omega) (by omega)
    rw [this]
    simp only [Int.toNat_natCast, hz1, Value.cells]
    rw [madeMaps]
  have q1 : decide ((n : Int) < 1) = false := by simp; omega
  have q2 : decide (1024 < (n : Int)) = false := by simp; omega
  have q3 : decide ((bl : Int) < 1) = false := by simp; omega
  have q4 : decide (4096 < (bl : Int)) = false := by simp; omega
  clear hi hz0 hz1 hz2
  go_enter Tryz.func134, Tryz.ntmps134
  go_wp2
  have ha : ((w.alloc (.cells (Array.replicate n (Value.map none)) 331)).alloc (.cells #[.int .i64 (bl : Int), .slice (some ⟨w.heap.size, 0, none⟩) n n] 330)).heap[w.heap.size]? = some (.cells (Array.replicate n (Value.map none)) 331) := by
    rw [Below.heap_alloc _ _ _ (by simp)]; exact heap_alloc_last w _ rfl
  have hb := heap_alloc_last (w.alloc (.cells (Array.replicate n (Value.map none)) 331)) (.cells #[.int .i64 (bl : Int), .slice (some ⟨w.heap.size, 0, none⟩) n n] 330) (n := w.heap.size + 1) (by simp)
  have hB := ((Below.refl w.heap.size w).alloc (Nat.le_refl _) (.cells (Array.replicate n (Value.map none)) 331)).alloc (by simp) (.cells #[.int .i64 (bl : Int), .slice (some ⟨w.heap.size, 0, none⟩) n n] 330)
  have hsz : ((w.alloc (.cells (Array.replicate n (Value.map none)) 331)).alloc (.cells #[.int .i64 (bl : Int), .slice (some ⟨w.heap.size, 0, none⟩) n n] 330)).heap.size = w.heap.size + 2 := by simp
  have hsl : Sl ((w.alloc (.cells (Array.replicate n (Value.map none)) 331)).alloc (.cells #[.int .i64 (bl : Int), .slice (some ⟨w.heap.size, 0, none⟩) n n] 330)) 331 1 (.slice (some ⟨w.heap.size, 0, none⟩) n n) n (List.replicate n (Value.map none)) :=
    ⟨by simp, .inr ⟨w.heap.size, 0, n, _, rfl, ha, Nat.le_refl _, by unfold maxLen; omega, by simp, fun j u hj => by rw [Nat.zero_add, ← List.toArray_replicate, List.getElem?_toArray]; exact hj⟩⟩
  generalize (w.alloc (.cells (Array.replicate n (Value.map none)) 331)).alloc (.cells #[.int .i64 (bl : Int), .slice (some ⟨w.heap.size, 0, none⟩) n n] 330) = w2 at *
  have HB := Lib.hid (And.intro hb (And.intro hB (And.intro hsz (And.intro hsl hn))))
  clear ha hb hB hsz hsl hn hmk
  go_loopw [32] (fun s32 wr => ∃ k : Nat, k ≤ n ∧ s32 = .int .i64 k ∧ (∃ M, LgTo w wr w.heap.size n k M) ∧ Upd (fun j => j = w.heap.size) w2 wr) (fun s32 _ => n - (intOf s32).toNat)
  case atStart => exact ⟨0, by omega, rfl, ⟨[], by simpa using HB.out.2.2.2.1, rfl, by simp, by simp, by simp⟩, Upd.refl _ _⟩
  case round =>
    obtain ⟨k, hk, rfl, ⟨M, hM⟩, hu⟩ := hrel
    have hstr := (hu.block _ (lt_of_block HB.out.1) (by omega)).trans HB.out.1
    have c1 := cell_of_block hstr 1
    simp at c1
    have hge := hu.size
    have hs2 := HB.out.2.2.1
    by_cases hlt : k < n
    · have b1 : (0 : Int) ≤ (k : Int) := by omega
      have b2 : (k : Int) < (n : Int) := by omega
      obtain ⟨g', off', cap', cur, he, hg, hoc, hcc⟩ := hM.sl.at (by omega)
      cases he
      have HM := Lib.hid (And.intro hM (And.intro hu (And.intro hstr hk)))
      have hc : (wr.alloc (.map #[] 0)).cell? ⟨w.heap.size, k, none⟩ = some (.map none) := by
        rw [cell_of_block ((Below.heap_alloc _ _ _ (lt_of_block hg)).trans hg)]
        have hl : (LgC M).length = k := by simp [LgC, hM.len]
        have := hcc k (.map none) (by rw [List.getElem?_append_right (by omega), hl, Nat.sub_self, List.getElem?_replicate, if_pos (by omega)])
        simpa using this
      have hf : (wr.alloc (.map #[] 0)).frozen? ⟨w.heap.size, k, none⟩ = false := frozen_of_block ((Below.heap_alloc _ _ _ (lt_of_block hg)).trans hg) k
      clear hM hu hstr hg hoc hcc hk
      have HX := Lib.hid (And.intro hs2 hge)
      clear hs2 hge
      go_wp2
      go_roundw
      case rel =>
        obtain ⟨hM, hu, hstr, hk⟩ := HM.out
        obtain ⟨hs2, hge⟩ := HX.out
        have hal : Upd (fun _ => False) wr (wr.alloc (.map #[] 0)) := (Upd.refl _ wr).alloc _
        have hsc : Upd (fun j => j = w.heap.size) (wr.alloc (.map #[] 0)) ((wr.alloc (.map #[] 0)).setCell ⟨w.heap.size, k, none⟩ (.map (some wr.heap.size))) := upd_setCell _ _ _ _
        refine ⟨k + 1, by omega, by go_num, ⟨M ++ [(wr.heap.size, fun _ => false)], ?_, by simp [hM.len], ?_, ?_, ?_⟩, (hu.trans (hal.mono (fun _ _ h => h.elim))).trans hsc⟩
        · have h3 := (hM.sl.keep hal (fun _ _ h => h)).setAt k (by omega) (.map (some wr.heap.size))
          rw [Nat.zero_add] at h3
          have e : (LgC M ++ List.replicate (n - k) (Value.map none)).set k (.map (some wr.heap.size)) = LgC (M ++ [(wr.heap.size, fun _ => false)]) ++ List.replicate (n - (k + 1)) (.map none) := by
            have : n - k = (n - (k + 1)) + 1 := by omega
            rw [this, List.replicate_succ, List.set_append_right _ _ (by simp [hM.len])]
            simp [hM.len, LgC]
          rw [e] at h3
          exact h3
        · intro p hp
          rcases List.mem_append.1 hp with hp | hp
          · refine ⟨((hM.sets p hp).1.keep hal (fun h => h)).keep hsc (fun e => ?_), (hM.sets p hp).2⟩
            have := hM.lo p hp; omega
          · simp at hp; subst hp
            exact ⟨((SetAt.made wr).mono (by omega)).keep hsc (fun e => by have e' : wr.heap.size = w.heap.size := e; omega), rfl⟩
        · rw [List.map_append, List.nodup_append]
          refine ⟨hM.nd, by simp, ?_⟩
          intro x hx y hy e
          simp at hy; subst hy
          obtain ⟨p, hp, rfl⟩ := List.mem_map.1 hx
          have := (hM.sets p hp).1.lt; omega
        · intro p hp
          rcases List.mem_append.1 hp with hp | hp
          · exact hM.lo p hp
          · simp at hp; subst hp; show _ ≤ wr.heap.size; omega
      case measure => simp [intOf]; omega
    · obtain rfl : k = n := by omega
      have HM := Lib.hid (And.intro hM (And.intro hu hstr))
      clear hM hu hstr hk hge hs2
      go_wp2
      go_ret2
      obtain ⟨hM, hu, hstr⟩ := HM.out
      obtain ⟨hb, hB, hsz, -, hn⟩ := HB.out
      have hMM : ∀ p ∈ M, p.1 < wr.heap.size := fun p hp => (hM.sets p hp).1.lt
      refine ⟨w.heap.size + 1, rfl, ⟨.slice (some ⟨w.heap.size, 0, none⟩) k k, M, ⟨hstr, by have := hM.sl; rw [hM.len]; simpa using this, fun p hp => (hM.sets p hp).1, hM.nd, fun p hp => ⟨?_, ?_⟩, by simp [Value.ownBlock], by rw [hM.len]; exact h2, ⟨h3, h4⟩, fun p hp s hs => ?_⟩, ?_, ?_⟩, below_upd hB hu (by omega) (fun j e => by omega), by omega⟩
      · have := hM.lo p hp; omega
      · have := hM.lo p hp; simp [Value.ownBlock]; omega
      · rw [(hM.sets p hp).2] at hs; simp at hs
      · apply List.ext_getElem (by simp [hM.len])
        intro i h1 h2
        simp only [List.getElem_map, List.getElem_replicate]
        exact (hM.sets _ (List.getElem_mem _)).2
      · rintro j (rfl | hj | hj)
        · exact hn _ (by omega)
        · simp [Value.ownBlock] at hj; exact hn _ (by omega)
        · obtain ⟨p, hp, rfl⟩ := List.mem_map.1 hj
          exact hn _ (by have := hM.lo p hp; omega)
abbrev Part := Nat × ((Nat → Prop) → World → Prop)
structure Mk (own0 : Nat → Nat) (w0 : World) (own : Nat → Nat) (w : World) (c : Nat) (cs : List Value) (bs bl : Nat) (us ul : Array Value) (L : List Part) : Prop where
  str : w.heap[c]? = some (.cells cs.toArray 172 (0, 0))
  oc : own c = 1
  cn : w0.heap.size ≤ c
  all : ∀ q ∈ L, Thing q.2 ∧ q.1 ≠ 1 ∧ q.2 (fun j => own j = q.1) w
  far : ∀ j, w.heap.size ≤ j → own j = 0
  nib : Nib w
  tur : Tur w
  on : own 0 = 0
  ot : own 1 = 0
  sb : w.heap[bs]? = some (.cells us 40 (0, 0))
  lb : w.heap[bl]? = some (.cells ul 43 (0, 0))
  bsc : bs ≠ c
  blc : bl ≠ c
  bel : Below w0.heap.size w0 w
  old : ∀ j, j < w0.heap.size → own j = own0 j
  new : ∀ j, w0.heap.size ≤ j → own j < 16
section
variable {own0 own : Nat → Nat} {w0 w w' : World} {c bs bl : Nat} {cs : List Value} {us ul : Array Value} {L : List Part}
theorem Mk.add (h : Mk own0 w0 own w c cs bs bl us ul L) (t : Nat) (ht : t ≠ 1 ∧ t < 16 ∧ ∀ q ∈ L, q.1 ≠ t) {R : (Nat → Prop) → World → Prop} (hR : Thing R) (hb : Below w.heap.size w w') (hr : R (fun j => w.heap.size ≤ j) w') :
    Mk own0 w0 (grow own t w.heap.size w'.heap.size) w' c cs bs bl us ul ((t, R) :: L) := by
  have hu : Upd (fun _ => False) w w' := Upd.of_below hb
  have hcl := lt_of_block h.str
  have ho : ∀ j, own j = t → j < w.heap.size ∨ t = 0 := fun j hj => by
    by_cases hl : j < w.heap.size
    · exact .inl hl
    · exact .inr (by rw [← hj, h.far j (by omega)])
  exact {
    str := hu.blockv h.str
    oc := (grow_old hcl).trans h.oc
    cn := h.cn
    all := fun q hq => by
      rcases List.mem_cons.1 hq with rfl | hq
      · exact ⟨hR, ht.1, hR.out hr (fun j hj hs => grow_new hs hj)⟩
      · obtain ⟨a1, a2, a3⟩ := h.all q hq
        exact ⟨a1, a2, a1.other a3 (ht.2.2 q hq) (hu.mono (fun _ _ h => h.elim))⟩
    far := fun j hj => by
      have := hu.size
      unfold grow
      rw [if_neg (by omega)]
      exact h.far j (by omega)
    nib := h.nib.keep hu (fun h => h)
    tur := h.tur.keep hu (fun h => h)
    on := (grow_old h.nib.lt).trans h.on
    ot := (grow_old h.tur.lt).trans h.ot
    sb := hu.blockv h.sb
    lb := hu.blockv h.lb
    bsc := h.bsc
    blc := h.blc
    bel := below_upd h.bel hu (Nat.le_refl _) (fun _ h => h.elim)
    old := fun j hj => (grow_old (Nat.lt_of_lt_of_le hj h.bel.size)).trans (h.old j hj)
    new := fun j hj => by
      unfold grow
      split
      · exact ht.2.1
      · exact h.new j hj }
theorem Mk.set (h : Mk own0 w0 own w c cs bs bl us ul L) (i : Nat) (v : Value) : Mk own0 w0 own (w.setCell ⟨c, i, none⟩ v) c (cs.set i v) bs bl us ul L := by
  have hu := upd_setCell w c i v
  have hne : ∀ (k j : Nat), k ≠ 1 → own j = k → ¬ j = c := fun k j hk hj e => hk (by rw [← hj, e, h.oc])
  exact {
    str := by have := heap_setCell_same h.str i v; simpa using this
    oc := h.oc
    cn := h.cn
    all := fun q hq => by
      obtain ⟨a1, a2, a3⟩ := h.all q hq
      exact ⟨a1, a2, a1.keep a3 hu (fun j hj => hne _ j a2 hj)⟩
    far := fun j hj => h.far j (by simpa using hj)
    nib := h.nib.keep hu (hne _ _ (by decide) h.on)
    tur := h.tur.keep hu (hne _ _ (by decide) h.ot)
    on := h.on
    ot := h.ot
    sb := (hu.block _ (lt_of_block h.sb) h.bsc).trans h.sb
    lb := (hu.block _ (lt_of_block h.lb) h.blc).trans h.lb
    bsc := h.bsc
    blc := h.blc
    bel := below_upd h.bel hu (Nat.le_refl _) (fun j e => e ▸ h.cn)
    old := h.old
    new := h.new }
theorem Mk.cell (h : Mk own0 w0 own w c cs bs bl us ul L) (i : Nat) : w.cell? ⟨c, i, none⟩ = cs[i]? := by rw [cell_of_block h.str]; simp
theorem Mk.part (h : Mk own0 w0 own w c cs bs bl us ul L) {t : Nat} {R : (Nat → Prop) → World → Prop} (hq : (t, R) ∈ L) : R (fun j => own j = t) w := (h.all _ hq).2.2
end
theorem Mk.start {own0 : Nat → Nat} {w0 w4 : World} {bs bl ssd back : Nat} {us ul : Array Value} {dF bF : List Bk} {dO bO : List (Nat × Bk)} {dP bP : List Int} (cs : List Value) (hU : Upd (fun _ => False) w0 w4)
    (h2 : Dv (fun j => own0 j = 2) w0 ssd dF dO dP) (h3 : Dv (fun j => own0 j = 3) w0 back bF bO bP) (far : ∀ j, w0.heap.size ≤ j → own0 j = 0) (nib : Nib w0) (tur : Tur w0) (on : own0 0 = 0) (ot : own0 1 = 0)
    (sb : w4.heap[bs]? = some (.cells us 40 (0, 0))) (lb : w4.heap[bl]? = some (.cells ul 43 (0, 0))) :
    ∃ own, Mk own0 w0 own ((w4.alloc (.map #[] 0)).alloc (.cells cs.toArray 172)) (w4.heap.size + 1) cs bs bl us ul
      [(9, fun S w => Mp S w w4.heap.size 0 (fun _ => none)), (3, fun S w => Dv S w back bF bO bP), (2, fun S w => Dv S w ssd dF dO dP)] := by
  obtain ⟨w5, hw5⟩ : ∃ w5, w5 = (w4.alloc (.map #[] 0)).alloc (.cells cs.toArray 172) := ⟨_, rfl⟩
  have hu1 : Upd (fun _ => False) w4 (w4.alloc (.map #[] 0)) := (Upd.refl _ w4).alloc _
  have hu2 : Upd (fun _ => False) (w4.alloc (.map #[] 0)) w5 := by rw [hw5]; exact (Upd.refl _ _).alloc _
  have hu := hu1.trans hu2
  have hz : w5.heap.size = w4.heap.size + 2 := by rw [hw5]; simp
  have hs := hU.size
  have hl := lt_of_block sb
  have hl2 := lt_of_block lb
  have hnl := nib.lt
  have htl := tur.lt
  have hout : ∀ (k : Nat), k ≠ 0 → ∀ (R : (Nat → Prop) → World → Prop), Thing R → R (fun j => own0 j = k) w0 → R (fun j => (if j = w4.heap.size then 9 else if j = w4.heap.size + 1 then 1 else own0 j) = k) w5 := fun k hk R hR h => by
    have h1 : R (fun j => own0 j = k ∧ j < w0.heap.size) w0 := hR.out h (fun j hj hs => ⟨hs, hj⟩)
    exact hR.out (hR.new h1 (hU.trans hu)) (fun j hj ⟨a, b⟩ => by rw [if_neg (by omega), if_neg (by omega)]; exact a)
  rw [← hw5]
  refine ⟨fun j => if j = w4.heap.size then 9 else if j = w4.heap.size + 1 then 1 else own0 j, ?_⟩
  exact {
    str := by rw [hw5]; exact heap_alloc_last _ _ (by simp)
    oc := by rw [if_neg (by omega), if_pos rfl]
    cn := by omega
    all := fun q hq => by
      simp only [List.mem_cons, List.not_mem_nil, or_false] at hq
      rcases hq with rfl | rfl | rfl
      · exact ⟨Mp.thing _ _ _, (by show (9 : Nat) ≠ 1; decide), (MapAt.made w4).keep hu2 (fun h => h), by simp⟩
      · exact ⟨Dv.thing _ _ _ _, (by show (3 : Nat) ≠ 1; decide), hout 3 (by decide) _ (Dv.thing _ _ _ _) h3⟩
      · exact ⟨Dv.thing _ _ _ _, (by show (2 : Nat) ≠ 1; decide), hout 2 (by decide) _ (Dv.thing _ _ _ _) h2⟩
    far := fun j hj => by rw [if_neg (by omega), if_neg (by omega)]; exact far j (by omega)
    nib := nib.keep (hU.trans hu) (fun h => h)
    tur := tur.keep (hU.trans hu) (fun h => h)
    on := by rw [if_neg (by omega), if_neg (by omega)]; exact on
    ot := by rw [if_neg (by omega), if_neg (by omega)]; exact ot
    sb := hu.blockv sb
    lb := hu.blockv lb
    bsc := by omega
    blc := by omega
    bel := Upd.below (hU.trans hu)
    old := fun j hj => by rw [if_neg (by omega), if_neg (by omega)]
    new := fun j hj => by
      split
      · decide
      · split
        · decide
        · rw [far j hj]; decide }
theorem inew_ix (n s : Nat) (w : World) (h1 : 1 ≤ n) (h2 : n ≤ 4096) (h3 : 1 ≤ s) (h4 : s ≤ 1024) :
    Calls Tryz.prog 132 #[.int .i64 n, .int .i64 s] w fun e w' => ∃ b, e = .returned (.tuple #[ptr b, .int .i64 0]) ∧ Ix (fun j => w.heap.size ≤ j) w' b 0 (List.replicate n (-1, false)) s ∧ Below w.heap.size w w' :=
  (inew_ok n s w h1 h2 h3 h4).mono fun _ _ ⟨b, v, mb, he, hi, hb, hm, hf, hw⟩ => ⟨b, he, ⟨v, mb, hi, hb, fun j hj => by rcases hj with hj | hj; exact hf j hj; exact hj ▸ hm⟩, hw⟩
theorem snew_ss (n : Nat) (w : World) (h1 : 1 ≤ n) (h2 : n ≤ 1024) :
    Calls Tryz.prog 133 #[.int .i64 n] w fun e w' => ∃ b, e = .returned (.tuple #[ptr b, .int .i64 0]) ∧ Ss (fun j => w.heap.size ≤ j) w' b (List.replicate n 0) ∧ Below w.heap.size w w' :=
  (snew_ok n w h1 h2).mono fun _ _ ⟨he, hs, hw, _⟩ => ⟨_, he, ⟨_, hs, by show _ ≤ _; omega, fun j hj => by simp [Value.ownBlock] at hj; show _ ≤ _; omega⟩, hw⟩
end Go.Proofs.YtfhfbpmlnjdfoaaGreatDoor
