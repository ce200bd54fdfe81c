/- The page that a sector is. The page that a sector is: GetPage. Blocks of 64 bytes are compared. Slots: contracts of the code's functions, and of the document's. Slots: New, Alloc, Copy; the document's New, Alloc, Turn, All. -/
import Derived.Test.YtfhfbpmlnjdfoaaGreatDoorA06
import Derived.Test.YtfhfbpmlnjdfoaaGreatDoorA09
import Derived.Test.YtfhfbpmlnjdfoaaGreatDoorA07
import Derived.Test.YtfhfbpmlnjdfoaaGreatDoorA08
import Derived.Test.YtfhfbpmlnjdfoaaGreatDoorA02
import Derived.Stop.BytesEq
import Derived.Test.YtfhfbpmlnjdfoaaGreatDoorA01
import Derived.WalkSpells
namespace Go.Proofs.YtfhfbpmlnjdfoaaGreatDoor
open Go Go.RowKit
def zeroP : List Value := [Value.int .i64 0, .int .i64 0, .int .i64 0, .int .i64 0, .int .i64 0, .int .i64 0, .bool false, .int .i64 0, .int .i64 0, .int .i64 0, .bool false, .int .i64 0, .int .i64 0, .int .i64 0, .bool false, .int .i64 0, .int .i64 0, .int .i64 0, .bool false, .int .i64 0]
theorem zP_one : (zeroP.toArray).all (·.oneCell') = true := by simp [zeroP, Value.oneCell']
set_option maxRecDepth 100000 in
set_option maxHeartbeats 2000000 in
theorem getP_any {w : World} (b : Bk) (hb : b.length = 64) (k : Nat) (ss : List Nat) (hss : (∀ s ∈ ss, 1 ≤ s ∧ s ≤ 7) ∧ ss.sum ≤ 59) (m : Nat) (hm : ss.length = m) (hm2 : m ≤ 100) (gs cl : Nat) (fm fb : Nat) (cm cb : Array Value) (tv : Value) (mb : Bool) (ds : List Value)
    (hds : (Tryz.prog.info? 280).map (·.size) = some ds.length) (hd1 : ∀ v ∈ ds, v.oneCell' = true) (hs : w.rangeAt gs 0 (ints (natsI ss))) (hN : Nib w)
    (entM : ∀ args w, (callFunc fm args).run Tryz.prog w = .ok (.enter fm args) w) (entB : ∀ args w, (callFunc fb args).run Tryz.prog w = .ok (.enter fb args) w)
    (hmay : ∀ W gl c, c = m → Below w.heap.size w W → W.rangeAt gl 0 (ints (natsI (numsAt b 1 ss))) → Calls Tryz.prog fm (#[.slice (some ⟨gl, 0, none⟩) m c] ++ cm) W fun e W' => e = .returned (.bool mb) ∧ Below W.heap.size W W')
    (hbuild : okGet b k ss mb = true → ∀ W gl c, c = m → Below w.heap.size w W → W.rangeAt gl 0 (ints (natsI (numsAt b 1 ss))) → Calls Tryz.prog fb (#[.slice (some ⟨gl, 0, none⟩) m c] ++ cb) W fun e W' => e = .returned (.agg ds.toArray) ∧ Below W.heap.size W W') :
    Calls Tryz.prog 245 #[.agg #[.int .i64 (k : Int), .slice (some ⟨gs, 0, none⟩) m cl, tv, .func (.func fm) #[] cm, .func (.func fb) #[] cb], .agg (bkC b).toArray] w
      (GetPost w (okGet b k ss mb) ds zeroP (cdGet b k ss mb)) := by
  have H := Lib.hid (And.intro hs (And.intro hN (And.intro hmay (And.intro hbuild (And.intro hss hm)))))
  have HC := Lib.hid (And.intro hds (And.intro hd1 hb))
  clear hs hN hmay hbuild hss hm hds hd1 hb
  have hr : ((w.alloc (.cells #[.int .i64 (k : Int), .slice (some ⟨gs, 0, none⟩) m cl, tv, .func (.func fm) #[] cm, .func (.func fb) #[] cb] 380)).alloc (.cells (bkC b).toArray 54)).rangeAt (w.heap.size + 1) 0 (bkC b) := range_of_block (heap_alloc_last _ _ (by simp))
  go_enter Tryz.func245, Tryz.ntmps245
  go_wp2_with (first
    | (refine wpList_load_mid rfl _ _ rfl _ _ rfl _ _ (World.rangeAt_alloc (World.rangeAt_alloc hr _) _) Tryz.underlying54 rfl (sizeBk _ HC.out.2.2) ?_)
    | fail)
  show Calls _ _ _ ((((w.alloc (.cells #[.int .i64 (k : Int), .slice (some ⟨gs, 0, none⟩) m cl, tv, .func (.func fm) #[] cm, .func (.func fb) #[] cb] 380)).alloc (.cells (bkC b).toArray 54)).alloc (.cells zeroP.toArray 280)).alloc (.cells zeroP.toArray 280)) _
  obtain ⟨Z, hZ⟩ : ∃ Z : List Value, Z = zeroP := ⟨_, rfl⟩
  rw [← hZ]
  have hZs : Hid (Z.toArray.size = 20) := by show _ = _; rw [hZ]; rfl
  have hZl : Hid (Z.length = 20) := by show _ = _; rw [hZ]; rfl
  have hsZ : Hid ((Tryz.prog.info? 280).map (·.size) = some Z.length) := by show _ = _; rw [hZ]; exact infoThP
  have hsA : Hid ((Tryz.prog.info? 280).map (·.size) = some Z.toArray.size) := by show _ = _; rw [hZ]; exact infoThP
  have hZ1 : Hid ((Z.toArray).all (·.oneCell') = true) := by show _ = _; rw [hZ]; exact zP_one
  have HZ := Lib.hid hZ
  clear hZ
  obtain ⟨h1, h2, h3, h4, h5, h6⟩ := four_new w (.cells #[.int .i64 (k : Int), .slice (some ⟨gs, 0, none⟩) m cl, tv, .func (.func fm) #[] cm, .func (.func fb) #[] cb] 380) (.cells (bkC b).toArray 54) (.cells Z.toArray 280) (.cells Z.toArray 280)
  clear hr
  generalize (((w.alloc (.cells #[.int .i64 (k : Int), .slice (some ⟨gs, 0, none⟩) m cl, tv, .func (.func fm) #[] cm, .func (.func fb) #[] cb] 380)).alloc (.cells (bkC b).toArray 54)).alloc (.cells Z.toArray 280)).alloc (.cells Z.toArray 280) = w4 at *
  refine (sealed_any b HC.out.2.2 (H.out.2.1.keep h6 (fun h => h))).mono ?_
  rintro e w5 ⟨rfl, hb5⟩
  have hu5 : Upd (fun _ => False) w4 w5 := Upd.of_below hb5
  have g1 := (hu5.block _ (lt_of_block h1) (fun h => h)).trans h1
  have g2 := (hu5.block _ (lt_of_block h2) (fun h => h)).trans h2
  have g3 := (hu5.block _ (lt_of_block h3) (fun h => h)).trans h3
  have g4 := (hu5.block _ (lt_of_block h4) (fun h => h)).trans h4
  have hz5 := hu5.size
  have H5 := Lib.hid (And.intro g1 (And.intro g2 (And.intro g3 (And.intro g4 (And.intro (h6.trans hu5) (And.intro h5 hz5))))))
  clear h1 h2 h3 h4 h5 h6 g1 g2 g3 g4 hu5 hb5 hz5
  by_cases hsl : sealB b = b
  · have hsc : sealedC b = 0 := if_pos hsl
    rw [hsc]
    clear hsc
    have HS := Lib.hid hsl
    clear hsl
    obtain ⟨g1, g2, g3, g4, u5, z4, z5⟩ := H5.out
    have r5 := range_of_block g2
    clear g1 g2 g3 g4 u5
    go_wp2_with (first
      | (refine wpList_load_mid rfl _ _ rfl _ _ rfl _ _ r5 Tryz.underlying54 rfl (sizeBk _ HC.out.2.2) ?_)
      | fail)
    refine (rread b HC.out.2.2).mono ?_
    rintro e w6 ⟨g, rfl, hR6, hge, hb6⟩
    have HX := Lib.hid (And.intro hR6 hb6)
    clear hR6 hb6
    go_wp2_with fail
    refine (rtake HX.out.1 1 (by decide) (by decide) (by decide)).mono ?_
    rintro e w7 ⟨rfl, hR7, hU7⟩
    obtain ⟨kb, hkb⟩ : ∃ kb, kb = numB ((b.drop 0).take 1) := ⟨_, rfl⟩
    rw [← hkb]
    have HK := Lib.hid hkb
    clear hkb
    obtain ⟨g1, g2, g3, g4, u5, z4, z5⟩ := H5.out
    obtain ⟨hs, hN, -, -, hss, hm⟩ := H.out
    have u57 : Upd (fun j => j = g) w5 w7 := ((Upd.of_below (S := fun _ => False) HX.out.2).mono (fun _ _ h => h.elim)).trans hU7
    have u7 : Upd (fun j => j = g) w w7 := (u5.mono (fun _ _ h => h.elim)).trans u57
    have hM7 : w.heap.size + 4 ≤ w7.heap.size := by have := u57.size; omega
    have gM : w.heap.size + 4 ≤ g := by omega
    have m1 : w7.cell? ⟨w.heap.size, 1, none⟩ = some (.slice (some ⟨gs, 0, none⟩) m cl) := u57.cellv (cell_of_block g1 1) (by omega)
    have a1 := (u57.block _ (lt_of_block g1) (by omega)).trans g1
    have a3 := (u57.block _ (lt_of_block g3) (by omega)).trans g3
    have a4 := (u57.block _ (lt_of_block g4) (by omega)).trans g4
    have gslt : gs < w.heap.size ∨ m = 0 := by
      rcases Nat.eq_zero_or_pos m with h | h
      · exact .inr h
      · exact .inl (World.block_lt_of_cell? w _ (hs 0 _ (natsI_get (by omega))))
    have hs7 : ∀ i (hi : i < ss.length), w7.cell? ⟨gs, i, none⟩ = some (.int .i64 (ss[i] : Int)) := fun i hi => by
      have := u7.cellv (hs i _ (natsI_get hi)) (by omega)
      rwa [Nat.zero_add] at this
    have hua : Upd (fun _ => False) w7 (w7.alloc (.cells (ints (List.replicate m 0)).toArray 3)) := (Upd.refl _ _).alloc _
    have hgL := heap_alloc_last w7 (.cells (ints (List.replicate m 0)).toArray 3) rfl
    have hmk := makeInts m (by omega) w7
    have hR8 := hR7.keep hua (fun h => h)
    have hglt := hR7.lt
    have m18 : (w7.alloc (.cells (ints (List.replicate m 0)).toArray 3)).cell? ⟨w.heap.size, 1, none⟩ = some (.slice (some ⟨gs, 0, none⟩) m cl) := hua.cellv m1 (fun h => h)
    have H8 := Lib.hid (And.intro hua (And.intro hgL (And.intro hR8 (And.intro a1 (And.intro a3 (And.intro a4 (And.intro hs7 (And.intro gslt (And.intro u7 (And.intro hss (And.intro hm hN)))))))))))
    clear g1 g2 g3 g4 u5 z4 hs hN hss hm u57 u7 a1 a3 a4 gslt hs7 hua hgL hR8 hU7 hR7 r5 z5
    go_wp2
    clear hmk m1
    generalize hW8 : w7.alloc (.cells (ints (List.replicate m 0)).toArray 3) = w8 at *
    have HW8 := Lib.hid hW8
    clear hW8
    generalize hL : w7.heap.size = L at *
    have HL := Lib.hid hL
    clear hL
    go_loopw [30] (fun s30 wr => ∃ i : Nat, i ≤ m ∧ s30 = .int .i64 i ∧ RdAt wr g b (1 + (ss.take i).sum) ∧ wr.heap[L]? = some (.cells (ints (fillI (numsAt b 1 ss) i)).toArray 3 (0, 0)) ∧ Upd (fun j => j = g ∨ j = L) w8 wr) (fun s30 _ => m - (intOf s30).toNat)
    case atStart => exact ⟨0, Nat.zero_le _, rfl, by simpa using H8.out.2.2.1, by rw [H8.out.2.1]; simp [fillI, natsI, numsAt_len, H8.out.2.2.2.2.2.2.2.2.2.2.1], Upd.refl _ _⟩
    case round =>
      obtain ⟨i, hi, rfl, hR, hL, hu⟩ := hrel
      obtain ⟨hua, hgL, hR8, a1, a3, a4, hs7, gslt, u7, hss, hm, hN⟩ := H8.out
      by_cases hlt : i < m
      · have hil : i < ss.length := by omega
        have x1 : wr.cell? ⟨gs, i, none⟩ = some (.int .i64 (ss[i] : Int)) := hu.cellv (hua.cellv (hs7 i hil) (fun h => h)) (by omega)
        have hsi := hss.1 ss[i] (List.getElem_mem hil)
        obtain ⟨t1, t2⟩ := sum_take ss hil
        have hng : ¬ L = g := by omega
        have hcx : ∃ v, wr.cell? ⟨L, i, none⟩ = some v := by
          rw [cell_of_block hL]
          exact ⟨_, Array.getElem?_eq_getElem (by rw [List.size_toArray, length_ints, fillI_len _ (by rw [numsAt_len]; omega), numsAt_len]; omega)⟩
        have hnx : Hid ((ints (fillI (numsAt b 1 ss) i)).toArray.setIfInBounds i (.int .i64 ((numB ((b.drop (1 + (ss.take i).sum)).take ss[i]) : Nat) : Int)) = (ints (fillI (numsAt b 1 ss) (i + 1))).toArray) := by
          show _ = _
          rw [List.setIfInBounds_toArray, ints_set, ← numsAt_get b 1 ss i hil, fillI_set _ (by rw [numsAt_len]; exact hil)]
        have hsum : Hid (1 + (ss.take (i + 1)).sum = 1 + (ss.take i).sum + ss[i]) := by show _ = _; omega
        have b1 : (0 : Int) ≤ (i : Int) ∧ (i : Int) < (m : Int) := by omega
        have hbd : 1 + (ss.take i).sum + ss[i] ≤ 60 := by omega
        have HX2 := Lib.hid (And.intro hR (And.intro hL (And.intro hu (And.intro hsi (And.intro hbd hcx)))))
        clear hua hgL hR8 a1 a3 a4 hs7 gslt u7 hss hm hN t1 t2 hR hL hu hcx hbd hsi
        obtain ⟨b1, b2⟩ := b1
        generalize ss[i] = si at *
        go_wp2_with fail
        refine (rtake HX2.out.1 si HX2.out.2.2.2.1.1 HX2.out.2.2.2.1.2 HX2.out.2.2.2.2.1).mono ?_
        rintro e w9 ⟨rfl, hR9, hU9⟩
        have hL9 := (hU9.block L (lt_of_block HX2.out.2.1) hng).trans HX2.out.2.1
        obtain ⟨v0, hv0⟩ := HX2.out.2.2.2.2.2
        have c9 := hU9.cellv hv0 hng
        have z9 := frozen_of_block hL9 i
        have hL10 := heap_setCell_same hL9 i (.int .i64 ((numB ((b.drop (1 + (ss.take i).sum)).take si) : Nat) : Int))
        rw [hnx.out] at hL10
        have hR10 := hR9.keep (upd_setCell w9 L i (.int .i64 ((numB ((b.drop (1 + (ss.take i).sum)).take si) : Nat) : Int))) (fun e => hng e.symm)
        rw [← hsum.out] at hR10
        have hU10 : Upd (fun j => j = g ∨ j = L) w8 (w9.setCell ⟨L, i, none⟩ (.int .i64 ((numB ((b.drop (1 + (ss.take i).sum)).take si) : Nat) : Int))) :=
          HX2.out.2.2.1.trans ((hU9.mono (fun _ _ h => .inl h)).trans ((upd_setCell _ _ _ _).mono (fun _ _ h => .inr h)))
        have HZ := Lib.hid (And.intro hR10 (And.intro hL10 hU10))
        clear hL9 hv0 hL10 hR10 hU10 hU9 hR9
        go_wp2
        go_roundw
        case rel => exact ⟨i + 1, by omega, by go_num, HZ.out.1, HZ.out.2.1, HZ.out.2.2⟩
        case measure => simp [intOf]; omega
      · obtain rfl : i = m := by omega
        rw [List.take_of_length_le (by omega)] at hR
        have hl5 : i = (numsAt b 1 ss).length := by rw [numsAt_len]; omega
        rw [show fillI (numsAt b 1 ss) i = natsI (numsAt b 1 ss) by rw [hl5]; exact fillI_all _] at hL
        clear hl5
        have u8r : Upd (fun j => j = g ∨ j = L) w7 wr := (hua.mono (fun _ _ h => h.elim)).trans hu
        have hLw : w.heap.size + 4 ≤ L := hM7
        have hlw : Below w.heap.size w wr := by
          refine below_upd (below_upd (Below.refl _ w) u7 (Nat.le_refl _) (fun k e => by omega)) u8r (Nat.le_refl _) (fun k e => by omega)
        have e1 := (u8r.block _ (lt_of_block a1) (by omega)).trans a1
        have e3 := (u8r.block _ (lt_of_block a3) (by omega)).trans a3
        have e4 := (u8r.block _ (lt_of_block a4) (by omega)).trans a4
        have hErr : ∀ W, Below wr.heap.size wr W → W.rangeAt (w.heap.size + 1 + 1 + 1) 0 Z ∧ W.there (w.heap.size + 1 + 1) 0 20 ∧ Below w.heap.size w W := fun W hW => by
          have f3 := (hW.block _ (lt_of_block e3)).trans e3
          refine ⟨range_of_block ((hW.block _ (lt_of_block e4)).trans e4), fun j hj => ?_, hlw.trans (hW.mono hlw.size)⟩
          rw [cell_of_block f3, frozen_of_block f3]
          exact ⟨by rw [Nat.zero_add, Array.getElem?_eq_getElem (by have := hZl.out; simp; omega)]; rfl, rfl⟩
        have m0 : wr.cell? ⟨w.heap.size, 0, none⟩ = some (.int .i64 (k : Int)) := cell_of_block e1 0
        have m3 : wr.cell? ⟨w.heap.size, 3, none⟩ = some (.func (.func fm) #[] cm) := cell_of_block e1 3
        have m4 : wr.cell? ⟨w.heap.size, 4, none⟩ = some (.func (.func fb) #[] cb) := cell_of_block e1 4
        have HE := Lib.hid (And.intro hErr (And.intro m3 (And.intro m4 (And.intro hR (And.intro (range_of_block hL) hlw)))))
        obtain ⟨rz, tz, hbz⟩ := hErr wr (Below.refl _ _)
        clear hua hgL hR8 a1 a3 a4 hs7 gslt u7 hss hm hN hR hL hu u8r hlw e1 e3 e4 hErr m3 m4
        by_cases hkk : kb = k
        · have hq : ((kb : Int) == (k : Int)) = true := by rw [hkk]; simp
          have hq2 : ((kb : Int) != (k : Int)) = false := by rw [hkk]; simp
          have HKK := Lib.hid hkk
          clear hkk rz tz hbz
          go_wp2_with fail
          refine (rend HE.out.2.2.2.1).mono ?_
          rintro e w10 ⟨rfl, hb10⟩
          obtain ⟨rz, tz, hbz⟩ := HE.out.1 w10 hb10
          have m3 := (Upd.of_below (S := fun _ => False) hb10).cellv HE.out.2.1 (fun h => h)
          have m4 := (Upd.of_below (S := fun _ => False) hb10).cellv HE.out.2.2.1 (fun h => h)
          have rL := Below.range hb10 HE.out.2.2.2.2.1
          have H10 := Lib.hid (And.intro hb10 (And.intro rL m4))
          clear rL m4 hb10
          have HBz := Lib.hid hbz
          clear hbz
          by_cases hen : endB b (1 + ss.sum) = true
          · have he0 : endC b (1 + ss.sum) = 0 := if_pos hen
            rw [he0]
            clear he0 rz tz
            have HEN := Lib.hid hen
            clear hen
            go_wp2_with fail
            refine (H.out.2.2.1 w10 L i rfl HBz.out H10.out.2.1).mono ?_
            rintro e w11 ⟨rfl, hb11⟩
            obtain ⟨rz, tz, hbz11⟩ := HE.out.1 w11 (H10.out.1.trans (hb11.mono H10.out.1.size))
            have m4 := (Upd.of_below (S := fun _ => False) hb11).cellv H10.out.2.2 (fun h => h)
            have rL := Below.range hb11 H10.out.2.1
            have HBz11 := Lib.hid hbz11
            have HRL := Lib.hid rL
            have HBz11b := Lib.hid hb11
            clear rL hbz11 hb11
            cases mb with
            | true =>
              have HR : Hid (okGet b k ss true = true) := by
                show _ = _
                simp only [okGet, HS.out, HEN.out, decide_true, Bool.true_and, Bool.and_true, decide_eq_true_eq]
                have := HK.out
                rw [List.drop_zero] at this
                rw [← this, HKK.out]
              clear rz tz
              go_wp2_with fail
              refine (H.out.2.2.2.1 HR.out w11 L i rfl HBz11.out HRL.out).mono ?_
              rintro e w12 ⟨rfl, hb12⟩
              obtain ⟨-, tz, hbz12⟩ := HE.out.1 w12 ((H10.out.1.trans ((HBz11b.out).mono H10.out.1.size)).trans (hb12.mono (by have := H10.out.1.size; have := HBz11b.out.size; omega)))
              have hdl : ds.length = 20 := by have h1 := HC.out.1; rw [infoThP] at h1; injection h1 with h1; exact h1.symm
              have hst : w12.there (w.heap.size + 1 + 1) 0 ds.toArray.size := by rw [show ds.toArray.size = 20 by simpa using hdl]; exact tz
              have hst2 : w12.there (w.heap.size + 1 + 1) 0 ds.length := by rw [hdl]; exact tz
              have hsz2 : (Tryz.prog.info? 280).map (·.size) = some ds.toArray.size := by rw [show ds.toArray.size = 20 by simpa using hdl]; exact infoThP
              have HST := Lib.hid (And.intro hst (And.intro hsz2 (And.intro hst2 hbz12)))
              clear hst hsz2 hst2 hdl hbz12 tz hb12
              go_wp2_with (first
                | (refine wpList_store_mid rfl _ _ _ rfl _ _ ds.toArray rfl rfl HST.out.1 HST.out.2.1 (all_oneCell_toArray HC.out.2.1) ?_)
                | fail)
              exact bodyPost_ret (results_mid2 rfl _ _ (w.heap.size + 1 + 1) 0 ds _ rfl (World.rangeAt_setCells_same _ _ _ _ HST.out.2.2.1) Tryz.underlying280 rfl HC.out.1) rfl
                ⟨⟨ds, fun _ => rfl, fun h => (by rw [HR.out] at h; cases h), by rw [show cdGet b k ss true = 0 from if_pos HR.out]; rfl⟩, below_upd HST.out.2.2.2 (upd_row _ (w.heap.size + 1 + 1) 0 _) (Nat.le_refl _) (fun k e => by omega)⟩
            | false =>
              have HR : Hid (okGet b k ss false = false) := by show _ = _; simp [okGet]
              go_wp2_with (first
                | (refine wpList_load_mid rfl _ _ rfl _ _ rfl _ _ rz Tryz.underlying280 rfl hsZ.out ?_)
                | (refine wpList_store_mid rfl _ _ _ rfl _ _ Z.toArray rfl rfl (by rw [hZs.out]; exact tz) hsA.out hZ1.out ?_)
                | fail)
              exact bodyPost_ret (results_mid2 rfl _ _ (w.heap.size + 1 + 1) 0 Z _ rfl (World.rangeAt_setCells_same _ _ _ _ (by first | (rw [hZs.out]; exact tz) | (rw [hZl.out]; exact tz))) Tryz.underlying280 rfl hsZ.out) rfl
                ⟨⟨_, fun h => (by rw [HR.out] at h; cases h), fun _ => rfl, by rw [okGet_no HS.out HR.out, HZ.out]; rfl⟩, below_upd HBz11.out (upd_row _ (w.heap.size + 1 + 1) 0 _) (Nat.le_refl _) (fun k e => by omega)⟩
          · have he0 : endC b (1 + ss.sum) = 12 := if_neg hen
            rw [he0]
            clear he0
            have HR : Hid (okGet b k ss mb = false) := by show _ = _; simp [okGet, hen]
            clear hen
            go_wp2_with (first
              | (refine wpList_load_mid rfl _ _ rfl _ _ rfl _ _ rz Tryz.underlying280 rfl hsZ.out ?_)
              | (refine wpList_store_mid rfl _ _ _ rfl _ _ Z.toArray rfl rfl (by rw [hZs.out]; exact tz) hsA.out hZ1.out ?_)
              | fail)
            exact bodyPost_ret (results_mid2 rfl _ _ (w.heap.size + 1 + 1) 0 Z _ rfl (World.rangeAt_setCells_same _ _ _ _ (by first | (rw [hZs.out]; exact tz) | (rw [hZl.out]; exact tz))) Tryz.underlying280 rfl hsZ.out) rfl
              ⟨⟨_, fun h => (by rw [HR.out] at h; cases h), fun _ => rfl, by rw [okGet_no HS.out HR.out, HZ.out]; rfl⟩, below_upd HBz.out (upd_row _ (w.heap.size + 1 + 1) 0 _) (Nat.le_refl _) (fun k e => by omega)⟩
        · have hq : ((kb : Int) == (k : Int)) = false := by rw [beq_eq_false_iff_ne]; omega
          have hq2 : ((kb : Int) != (k : Int)) = true := by rw [bne_iff_ne]; omega
          have HR : Hid (okGet b k ss mb = false) := by
            show _ = _
            have := HK.out
            rw [List.drop_zero] at this
            simp [okGet, ← this, hkk]
          have HBz := Lib.hid hbz
          clear hkk hbz
          go_wp2_with (first
            | (refine wpList_load_mid rfl _ _ rfl _ _ rfl _ _ rz Tryz.underlying280 rfl hsZ.out ?_)
            | (refine wpList_store_mid rfl _ _ _ rfl _ _ Z.toArray rfl rfl (by rw [hZs.out]; exact tz) hsA.out hZ1.out ?_)
            | fail)
          exact bodyPost_ret (results_mid2 rfl _ _ (w.heap.size + 1 + 1) 0 Z _ rfl (World.rangeAt_setCells_same _ _ _ _ (by first | (rw [hZs.out]; exact tz) | (rw [hZl.out]; exact tz))) Tryz.underlying280 rfl hsZ.out) rfl
            ⟨⟨_, fun h => (by rw [HR.out] at h; cases h), fun _ => rfl, by rw [okGet_no HS.out HR.out, HZ.out]; rfl⟩, below_upd HBz.out (upd_row _ (w.heap.size + 1 + 1) 0 _) (Nat.le_refl _) (fun k e => by omega)⟩
  · have hsc : sealedC b = 13 := if_neg hsl
    have hres := okGet_seal (k := k) (ss := ss) (mb := mb) hsl
    rw [hsc]
    have HR := Lib.hid hres
    clear hsc hsl hres
    obtain ⟨g1, g2, g3, g4, u5, z4, z5⟩ := H5.out
    have r4 := range_of_block g4
    have hth : w5.there (w.heap.size + 1 + 1) 0 20 := fun j hj => by
      rw [cell_of_block g3, frozen_of_block g3]
      exact ⟨by rw [Nat.zero_add, Array.getElem?_eq_getElem (by have := hZl.out; simp; omega)]; rfl, rfl⟩
    have HU := Lib.hid u5
    clear g1 g2 g3 g4 u5 z4 z5
    go_wp2_with (first
      | (refine wpList_load_mid rfl _ _ rfl _ _ rfl _ _ r4 Tryz.underlying280 rfl hsZ.out ?_)
      | (refine wpList_store_mid rfl _ _ _ rfl _ _ Z.toArray rfl rfl (by rw [hZs.out]; exact hth) hsA.out hZ1.out ?_)
      | fail)
    refine bodyPost_ret (results_mid2 rfl _ _ (w.heap.size + 1 + 1) 0 Z _ rfl (World.rangeAt_setCells_same _ _ _ _ (by first | (rw [hZs.out]; exact hth) | (rw [hZl.out]; exact hth))) Tryz.underlying280 rfl hsZ.out) rfl
      ⟨⟨_, fun h => (by rw [HR.out.1] at h; cases h), fun _ => rfl, by rw [HR.out.2, HZ.out]; rfl⟩, below_upd (Upd.below HU.out) (upd_row w5 (w.heap.size + 1 + 1) 0 _) (Nat.le_refl _) (fun k e => by omega)⟩
def GetPPost (w : World) (b : Bk) : Ending → World → Prop := GetPost w (okP b) (dsP (natsI (numsP b))) zeroP (cdP b)
set_option maxRecDepth 100000 in
theorem getP_form {w : World} {gs gt : Nat} (hF : FormP w gs gt) (hN : Nib w) (b : Bk) (hb : b.length = 64) :
    Calls Tryz.prog 245 #[formPV gs gt, .agg (bkC b).toArray] w (GetPPost w b) := by
  obtain ⟨hs, v, hv, hB⟩ := hF
  refine getP_any (w := w) b hb 3 szP ⟨by simp [szP], by decide⟩ 20 rfl (by decide) gs 20 308 310 #[.pointer (some ⟨gt, 0, none⟩)] #[] (.func (.func 307) #[] #[]) (mayP (natsI (numsP b))) (dsP (natsI (numsP b)))
    (by rw [dsP_len]; exact infoThP) (dsP_one _) hs hN (fun _ _ => rfl) (fun _ _ => rfl) ?_ ?_
  · intro W gl c hc hW hr
    subst hc
    exact mayP_any _ (by show (natsI (numsAt b 1 _)).length = 20; simp [natsI, numsAt_len, szP]) (Nat.le_refl _) (by decide) ((Upd.of_below (S := fun _ => False) hW).cellv hv (fun h => h)) (hB.below hW) hr
  · intro _ W gl c hc hW hr
    subst hc
    exact buildP _ (by show (natsI (numsAt b 1 _)).length = 20; simp [natsI, numsAt_len, szP]) hr (Nat.le_refl _) (by decide)
set_option maxRecDepth 100000 in
set_option maxHeartbeats 1000000 in
theorem GetP_any {w : World} (hN : Nib w) (b : Bk) (hb : b.length = 64) :
    Calls Tryz.prog 172 #[.agg (bkC b).toArray] w (GetPPost w b) := by
  have HN := Lib.hid hN
  have Hb := Lib.hid hb
  clear hN hb
  go_enter Tryz.func172, Tryz.ntmps172
  go_wp2_with fail
  change Code.wp _ _ _ _ ((w.alloc (.cells (bkC b).toArray 54)).alloc (.cells zeroP.toArray 280))
  have hr : ((w.alloc (.cells (bkC b).toArray 54)).alloc (.cells zeroP.toArray 280)).rangeAt w.heap.size 0 (bkC b) := World.rangeAt_alloc (range_of_block (heap_alloc_last w _ rfl)) _
  have hg : ((w.alloc (.cells (bkC b).toArray 54)).alloc (.cells zeroP.toArray 280)).heap[w.heap.size + 1]? = some (.cells zeroP.toArray 280) := heap_alloc_last _ _ (by simp)
  have hu : Upd (fun _ => False) w ((w.alloc (.cells (bkC b).toArray 54)).alloc (.cells zeroP.toArray 280)) := ((Upd.refl _ w).alloc _).alloc _
  generalize (w.alloc (.cells (bkC b).toArray 54)).alloc (.cells zeroP.toArray 280) = w2 at *
  have hb2 : Below w.heap.size w w2 := Upd.below hu
  refine wp_region_held_drew (S := fun W => W.rangeAt w.heap.size 0 (bkC b)) (by kernel_rfl) (by rw [World.rangeAt_drew]; exact hr) (fun hHeld => ?_)
  refine Wl.l 1 (fun w h => h) Tryz.underlying54 (sizeBk _ Hb.out) hHeld ?_
  refine Wl.r 0 (fun K hK => ?_)
  go_simp
  refine (pages_any _).mono ?_
  rintro e w3 ⟨gs, gt, rfl, hF, hb3⟩
  have hb3' : Below w2.heap.size w2 w3 := bundrew' hb3
  refine hK.out _ _ (Below.range hb3 hHeld) (fun hHeld2 => ?_)
  clear hK K
  refine Wl.r 2 (fun K hK => ?_)
  go_simp
  refine (getP_form hF ((HN.out.keep hu (fun h => h)).below hb3') b Hb.out).mono ?_
  rintro e w4 ⟨⟨rs, hr1, hr2, rfl⟩, hb4⟩
  have hb4' : Below w2.heap.size w2 w4 := hb3'.trans (hb4.mono hb3'.size)
  have hg4 := (hb4'.block _ (lt_of_block hg)).trans hg
  have hth : w4.there (w.heap.size + 1) 0 20 := fun j hj => by
    rw [cell_of_block hg4, frozen_of_block hg4]
    exact ⟨by rw [Nat.zero_add, Array.getElem?_eq_getElem (by rw [List.size_toArray]; exact hj)]; rfl, rfl⟩
  have hrl : rs.length = 20 ∧ ∀ v ∈ rs, v.oneCell' = true := by
    cases hk : okP b with
    | true => rw [hr1 hk]; exact ⟨dsP_len _, dsP_one _⟩
    | false => rw [hr2 hk]; exact ⟨rfl, List.all_eq_true.1 (by simp [zeroP, Value.oneCell'] : zeroP.all (·.oneCell') = true)⟩
  have hst : w4.there (w.heap.size + 1) 0 rs.toArray.size := by rw [show rs.toArray.size = 20 by simpa using hrl.1]; exact hth
  have hst2 : w4.there (w.heap.size + 1) 0 rs.length := by rw [hrl.1]; exact hth
  have hsz2 : (Tryz.prog.info? 280).map (·.size) = some rs.toArray.size := by rw [show rs.toArray.size = 20 by simpa using hrl.1]; exact infoThP
  have hsz3 : (Tryz.prog.info? 280).map (·.size) = some rs.length := by rw [hrl.1]; exact infoThP
  have hU5 : Below w.heap.size w (w4.setCells (w.heap.size + 1) 0 rs) := below_upd (hb2.trans (hb4'.mono hu.size)) (upd_row w4 (w.heap.size + 1) 0 _) (Nat.le_refl _) (fun k e => by omega)
  refine hK.out _ _ (Below.range hb4 hHeld2) (fun hHeld3 => ?_)
  clear hK K
  refine Wl.i [3, 4] ?_; iterate 2 refine Wl.t hHeld3 ?_
  refine Wl.o ?_
  refine Wl.r 5 (fun K hK => ?_)
  rw [if_pos (by rfl)]
  refine wp_store_mid _ _ _ rfl _ _ (List.toArray _) rfl rfl (hst) (hsz2) (all_oneCell_toArray hrl.2) ?_
  simp only [Act.put, List.setIfInBounds_toArray]
  refine hK.out _ _ ((upd_row w4 (w.heap.size + 1) 0 rs).range hHeld3 (by omega)) (fun hHeld4 => ?_)
  clear hK K
  refine Wl.r 6 (fun K hK => ?_)
  go_simp
  refine hK.out _ _ (hHeld4) (fun _ => ?_)
  clear hK K
  refine Wl.d ?_
  have HE := Lib.hid (And.intro hU5 (And.intro hst2 (And.intro hsz3 (And.intro hr1 hr2))))
  clear hst hst2 hsz2 hsz3 hU5 hth hg4 hb4 hb4' hb3 hb3' hHeld hHeld2 hHeld3 hHeld4 hF hr hg hu hb2 hr1 hr2 hrl
  go_wp2
  exact bodyPost_ret (results_mid2 rfl _ _ (w.heap.size + 1) 0 rs _ rfl (World.rangeAt_setCells_same _ _ _ _ HE.out.2.1) Tryz.underlying280 rfl HE.out.2.2.1) rfl ⟨⟨rs, HE.out.2.2.2.1, HE.out.2.2.2.2, rfl⟩, HE.out.1⟩
theorem sizeU8 (w : World) : (sizeOf 5).run Tryz.prog w = .ok 1 w := by
  obtain ⟨i, hi, hs⟩ := Option.map_eq_some_iff.1 (show (Tryz.prog.info? 5).map (·.size) = some 1 by kernel_rfl)
  simp [sizeOf, typeInfo, hi, hs]
theorem run_eql_bk (x y : Bk) (hx : x.length = 64) (hy : y.length = 64) (w : World) : (binOp .eql 54 (.agg (bkC x).toArray) (.agg (bkC y).toArray)).run Tryz.prog w = .ok (.bool (x == y)) w :=
  run_eql_bytes w 54 5 64 Tryz.underlying54 Tryz.underlying5 sizeU8 x y hx hy
theorem run_neq_bk (x y : Bk) (hx : x.length = 64) (hy : y.length = 64) (w : World) : (binOp .neq 54 (.agg (bkC x).toArray) (.agg (bkC y).toArray)).run Tryz.prog w = .ok (.bool (!(x == y))) w := by
  have e : (Op.equalIn 10000 54 (.agg (bkC x).toArray) (.agg (bkC y).toArray)).run Tryz.prog w = .ok (x == y) w := run_equalIn_bytes w 9998 54 5 64 Tryz.underlying54 Tryz.underlying5 sizeU8 x y hx hy
  rw [run_neq_struct, e]
  rfl
structure Tur (w : World) : Prop where
  c0 : w.cell? ⟨1, 0, none⟩ = some (.int .i64 2)
  c1 : w.cell? ⟨1, 1, none⟩ = some (.int .i64 28)
  c2 : w.cell? ⟨1, 2, none⟩ = some (.int .i64 24)
  c3 : w.cell? ⟨1, 3, none⟩ = some (.int .i64 17)
  c4 : w.cell? ⟨1, 4, none⟩ = some (.int .i64 0)
theorem Tur.lt {w : World} (h : Tur w) : 1 < w.heap.size := (addr_of_cell h.c0).2
theorem Tur.keep {w w' : World} (h : Tur w) {S : Nat → Prop} (hu : Upd S w w') (hs : ¬ S 1) : Tur w' :=
  ⟨(hu.cellAt h.lt hs).trans h.c0, (hu.cellAt h.lt hs).trans h.c1, (hu.cellAt h.lt hs).trans h.c2, (hu.cellAt h.lt hs).trans h.c3, (hu.cellAt h.lt hs).trans h.c4⟩
def mayB (a b : Int) : Bool :=
  if a = 0 then b == 1 else if a = 1 then b == 2 || b == 3 || b == 4 else if a = 2 then b == 3 || b == 4 else if a = 3 then b == 0 || b == 4 else false
def stateB (a : Int) : Bool := decide (0 ≤ a) && decide (a ≤ 4)
theorem isState_any (a : Int) (w : World) : Calls Tryz.prog 248 #[.int .i64 a] w fun e w' => e = .returned (.bool (stateB a)) ∧ w' = w := by
  by_cases h1 : 0 ≤ a
  · by_cases h2 : a ≤ 4
    · go_enter Tryz.func248, Tryz.ntmps248
      go_wp2
      go_ret
      exact ⟨by simp [stateB, h1, h2], rfl⟩
    · go_enter Tryz.func248, Tryz.ntmps248
      go_wp2
      go_ret
      exact ⟨by simp [stateB, h1, h2], rfl⟩
  · go_enter Tryz.func248, Tryz.ntmps248
    go_wp2
    go_ret
    exact ⟨by simp [stateB]; omega, rfl⟩
theorem may_out (a b : Int) (h : ¬ (0 ≤ a ∧ a ≤ 4) ∨ ¬ (0 ≤ b ∧ b ≤ 4)) : mayB a b = false := by
  unfold mayB
  repeat' split
  all_goals first | rfl | (simp; omega)
theorem may_any (a b : Int) (w : World) (ht : Tur w) : Calls Tryz.prog 249 #[.int .i64 a, .int .i64 b] w fun e w' => e = .returned (.bool (mayB a b)) ∧ w' = w := by
  by_cases ha : 0 ≤ a ∧ a ≤ 4
  · by_cases hb : 0 ≤ b ∧ b ≤ 4
    · obtain ⟨c0, c1, c2, c3, c4⟩ := ht
      have ha' : a = 0 ∨ a = 1 ∨ a = 2 ∨ a = 3 ∨ a = 4 := by omega
      have hb' : b = 0 ∨ b = 1 ∨ b = 2 ∨ b = 3 ∨ b = 4 := by omega
      clear ha hb
      rcases ha' with rfl | rfl | rfl | rfl | rfl <;> rcases hb' with rfl | rfl | rfl | rfl | rfl
      all_goals
        go_enter Tryz.func249, Tryz.ntmps249
        go_wp2
        go_ret
        exact ⟨rfl, rfl⟩
    · rw [may_out a b (.inr hb)]
      have hs : stateB a = true := by simp [stateB, ha]
      have hs2 : stateB b = false := by simp [stateB]; omega
      clear ht ha hb
      go_enter Tryz.func249, Tryz.ntmps249
      go_wp2_with fail
      refine (isState_any a _).mono ?_
      rintro e w' ⟨rfl, rfl⟩
      rw [hs]
      go_wp2_with fail
      refine (isState_any b _).mono ?_
      rintro e w' ⟨rfl, rfl⟩
      rw [hs2]
      go_wp2
      go_ret
      exact ⟨rfl, rfl⟩
  · rw [may_out a b (.inl ha)]
    have hs : stateB a = false := by simp [stateB]; omega
    clear ht ha
    go_enter Tryz.func249, Tryz.ntmps249
    go_wp2_with fail
    refine (isState_any a _).mono ?_
    rintro e w' ⟨rfl, rfl⟩
    rw [hs]
    go_wp2
    go_ret
    exact ⟨rfl, rfl⟩
structure SlotsAt (T : TypeId) (w : World) (b : Nat) (v : Value) (l : List Int) : Prop where
  str : w.heap[b]? = some (.cells #[v] T (0, 0))
  sl : Sl w 3 1 v l.length (ints l)
  ne : v.ownBlock ≠ some b
  le : l.length ≤ 1024
abbrev ptrAt (b : Nat) : Value := .pointer (some ⟨b, 0, none⟩)
section
variable {T : TypeId} {w w' : World} {b : Nat} {v : Value} {l : List Int}
theorem SlotsAt.keep (h : SlotsAt T w b v l) {S : Nat → Prop} (hu : Upd S w w') (hb : ¬ S b) (hv : ∀ g, v.ownBlock = some g → ¬ S g) : SlotsAt T w' b v l :=
  ⟨(hu.block b (lt_of_block h.str) hb).trans h.str, h.sl.keep hu hv, h.ne, h.le⟩
theorem SlotsAt.new (h : SlotsAt T w b v l) (hu : Upd (fun _ => False) w w') : SlotsAt T w' b v l := h.keep hu (fun h => h) (fun _ _ h => h)
theorem Sl.set {e : TypeId} {g off n cap : Nat} {l : List Int} (h : Sl w e 1 (.slice (some ⟨g, off, none⟩) n cap) n (ints l)) (i : Nat) (hi : i < n) (x : Int) :
    Sl (w.setCell ⟨g, off + i, none⟩ (.int .i64 x)) e 1 (.slice (some ⟨g, off, none⟩) n cap) n (ints (l.set i x)) := by
  obtain ⟨hl, ⟨h1, _⟩ | ⟨g', off', cap', cur, h1, hg, hn, hm, hs, hc⟩⟩ := h
  · cases h1
  · cases h1
    refine ⟨by simpa using hl, .inr ⟨g, off, cap, _, rfl, heap_setCell_same hg _ _, hn, hm, by simpa using hs, fun j u hj => ?_⟩⟩
    have hjl : j < l.length := by have := (List.getElem?_eq_some_iff.1 hj).1; simpa using this
    rw [get_ints (by simpa using hjl)] at hj
    cases hj
    by_cases hji : i = j
    · subst hji
      rw [Array.getElem?_setIfInBounds_self, if_pos (by omega)]
      simp
    · rw [Array.getElem?_setIfInBounds_ne (by omega), List.getElem_set_ne hji]
      exact hc j _ (get_ints hjl)
theorem SlotsAt.set {g off cap : Nat} (h : SlotsAt T w b (.slice (some ⟨g, off, none⟩) l.length cap) l) (i : Nat) (hi : i < l.length) (x : Int) :
    SlotsAt T (w.setCell ⟨g, off + i, none⟩ (.int .i64 x)) b (.slice (some ⟨g, off, none⟩) l.length cap) (l.set i x) ∧ Upd (ownS (.slice (some ⟨g, off, none⟩) l.length cap)) w (w.setCell ⟨g, off + i, none⟩ (.int .i64 x)) := by
  have hu : Upd (ownS (.slice (some ⟨g, off, none⟩) l.length cap)) w (w.setCell ⟨g, off + i, none⟩ (.int .i64 x)) := (upd_setCell w g (off + i) _).mono (fun k _ hk => by subst hk; rfl)
  refine ⟨⟨(hu.block b (lt_of_block h.str) (fun e => h.ne e)).trans h.str, ?_, h.ne, by simpa using h.le⟩, hu⟩
  have := h.sl.set i hi x
  rw [List.length_set]; exact this
theorem SlotsAt.at (h : SlotsAt T w b v l) {i : Nat} (hi : i < l.length) : ∃ g off cap, v = .slice (some ⟨g, off, none⟩) l.length cap ∧ w.cell? ⟨g, off + i, none⟩ = some (.int .i64 l[i]) ∧ w.frozen? ⟨g, off + i, none⟩ = false := by
  obtain ⟨g, off, cap, cur, rfl, hg, _, hc⟩ := h.sl.at (by omega)
  exact ⟨g, off, cap, rfl, by rw [cell_of_block hg]; exact hc i _ (get_ints hi), frozen_of_block hg _⟩
end
section
variable {w : World} {b : Nat} {v : Value} {l : List Int}
theorem state_out (h : SlotsAt 327 w b v l) (slot : Int) (ho : slot < 0 ∨ (l.length : Int) ≤ slot) :
    Calls Tryz.prog 247 #[ptrAt b, .int .i64 slot] w fun e w' => e = .returned (.tuple #[.int .i64 0, .int .i64 10]) ∧ w' = w := by
  have hc0 := cell_of_block h.str 0
  simp at hc0
  have hle := h.le
  obtain ⟨ao, c, rfl⟩ := h.sl.rd.nil_iff
  clear h
  by_cases h0 : slot < 0
  · clear ho
    go_enter Tryz.func247, Tryz.ntmps247
    go_wp2
    go_ret2
    exact ⟨rfl, rfl⟩
  · have h1 : (l.length : Int) ≤ slot := by omega
    clear ho
    go_enter Tryz.func247, Tryz.ntmps247
    go_wp2
    go_ret2
    exact ⟨rfl, rfl⟩
theorem state_in (h : SlotsAt 327 w b v l) (i : Nat) (hi : i < l.length) :
    Calls Tryz.prog 247 #[ptrAt b, .int .i64 i] w fun e w' => e = .returned (.tuple #[.int .i64 l[i], .int .i64 0]) ∧ w' = w := by
  have hc0 := cell_of_block h.str 0
  simp at hc0
  have hle := h.le
  obtain ⟨g, off, cap, rfl, hc, hf⟩ := h.at hi
  clear h
  go_enter Tryz.func247, Tryz.ntmps247
  go_wp2
  go_ret2
  exact ⟨rfl, rfl⟩
def turnCode (l : List Int) (slot state : Int) : Int :=
  if slot < 0 ∨ (l.length : Int) ≤ slot then 10 else if stateB state = false then 1 else if mayB (l.getD slot.toNat 0) state = false then 16 else 0
def turnList (l : List Int) (slot state : Int) : List Int := if turnCode l slot state = 0 then l.set slot.toNat state else l
theorem turn_any (h : SlotsAt 327 w b v l) (ht : Tur w) (slot state : Int) :
    Calls Tryz.prog 176 #[ptrAt b, .int .i64 slot, .int .i64 state] w fun e w' => e = .returned (.int .i64 (turnCode l slot state)) ∧
      SlotsAt 327 w' b v (turnList l slot state) ∧ Upd (ownS v) w w' := by
  have H := Lib.hid h
  have HT := Lib.hid ht
  clear ht
  by_cases h0 : slot < 0 ∨ (l.length : Int) ≤ slot
  · have hcode : turnCode l slot state = 10 := by simp [turnCode, h0]
    have hlist : turnList l slot state = l := by simp [turnList, hcode]
    rw [hcode, hlist]
    have H0 := Lib.hid h0
    clear h hcode hlist h0
    go_enter Tryz.func176, Tryz.ntmps176
    go_wp2_with fail
    refine (state_out H.out _ H0.out).mono ?_
    rintro e w' ⟨rfl, rfl⟩
    go_wp2
    go_ret
    exact ⟨rfl, H.out, Upd.refl _ _⟩
  · obtain ⟨i, rfl⟩ := Int.eq_ofNat_of_zero_le (show 0 ≤ slot by omega)
    have hi : i < l.length := by omega
    have hgd : l.getD i 0 = l[i] := by simp [hi]
    by_cases h1 : stateB state = false
    · have hcode : turnCode l i state = 1 := by simp only [turnCode, if_neg h0, if_pos h1]
      have hlist : turnList l i state = l := by simp [turnList, hcode]
      rw [hcode, hlist]
      have H1 := Lib.hid h1
      clear h hcode hlist h0 hgd h1
      go_enter Tryz.func176, Tryz.ntmps176
      go_wp2_with fail
      refine (state_in H.out i hi).mono ?_
      rintro e w' ⟨rfl, rfl⟩
      go_wp2_with fail
      refine (isState_any state _).mono ?_
      rintro e w' ⟨rfl, rfl⟩
      rw [H1.out]
      go_wp2
      go_ret
      exact ⟨rfl, H.out, Upd.refl _ _⟩
    · have h1' : stateB state = true := by simpa using h1
      by_cases h2 : mayB l[i] state = false
      · have hcode : turnCode l i state = 16 := by simp only [turnCode, if_neg h0, if_neg h1, Int.toNat_natCast, hgd, if_pos h2]
        have hlist : turnList l i state = l := by simp [turnList, hcode]
        rw [hcode, hlist]
        have H1 := Lib.hid h1'
        have H2 := Lib.hid h2
        clear h hcode hlist h0 hgd h1 h1' h2
        go_enter Tryz.func176, Tryz.ntmps176
        go_wp2_with fail
        refine (state_in H.out i hi).mono ?_
        rintro e w' ⟨rfl, rfl⟩
        go_wp2_with fail
        refine (isState_any state _).mono ?_
        rintro e w' ⟨rfl, rfl⟩
        rw [H1.out]
        go_wp2_with fail
        refine (may_any _ _ _ HT.out).mono ?_
        rintro e w' ⟨rfl, rfl⟩
        rw [H2.out]
        go_wp2
        go_ret
        exact ⟨rfl, H.out, Upd.refl _ _⟩
      · have h2' : mayB l[i] state = true := by simpa using h2
        have hcode : turnCode l i state = 0 := by simp only [turnCode, if_neg h0, if_neg h1, Int.toNat_natCast, hgd, if_neg h2]
        have hlist : turnList l i state = l.set i state := by simp only [turnList, hcode, if_true, Int.toNat_natCast]
        rw [hcode, hlist]
        have H1 := Lib.hid h1'
        have H2 := Lib.hid h2'
        have hc0 := cell_of_block h.str 0
        simp at hc0
        have hle := h.le
        obtain ⟨g, off, cap, rfl, hc, hf⟩ := h.at hi
        have HF := Lib.hid (H.out.set i hi state)
        clear h hcode hlist h0 hgd h1 h1' h2 h2'
        go_enter Tryz.func176, Tryz.ntmps176
        go_wp2_with fail
        refine (state_in H.out i hi).mono ?_
        rintro e w' ⟨rfl, rfl⟩
        go_wp2_with fail
        refine (isState_any state _).mono ?_
        rintro e w' ⟨rfl, rfl⟩
        rw [H1.out]
        go_wp2_with fail
        refine (may_any _ _ _ HT.out).mono ?_
        rintro e w' ⟨rfl, rfl⟩
        rw [H2.out]
        go_wp2
        go_ret
        exact ⟨rfl, HF.out.1, HF.out.2⟩
end
theorem madeZeros (n : Nat) : madeCells #[Value.int .i64 0] (n * 1) = (ints (List.replicate n 0)).toArray := by
  apply Array.ext
  · simp [size_madeCells]
  · intro i h1 h2
    have : i % 1 = 0 := Nat.mod_one i
    simp [madeCells, ints, this]
theorem infoI : (Tryz.prog.info? 3).map (fun i => (i.zero, i.size, i.bytes)) = some (some (.int .i64 0), 1, 8) := by kernel_rfl
abbrev TS : TypeId := 327
theorem snew_ok (n : Nat) (w : World) (h1 : 1 ≤ n) (h2 : n ≤ 1024) :
    Calls Tryz.prog 133 #[.int .i64 n] w fun e w' => e = .returned (.tuple #[ptrAt (w.heap.size + 1), .int .i64 0]) ∧
      SlotsAt TS w' (w.heap.size + 1) (.slice (some ⟨w.heap.size, 0, none⟩) n n) (List.replicate n 0) ∧ Below w.heap.size w w' ∧ w'.heap.size = w.heap.size + 2 := by
  obtain ⟨i0, hi, hz0, hz1, hz2⟩ := info_parts infoI
  have hmk : ∀ w : World, (Instr.makeSlice 87 (.int .i64 n) (.int .i64 n)).run Tryz.prog w = .ok (.slice (some ⟨w.heap.size, 0, none⟩) n n) (w.alloc (.cells (ints (List.replicate n 0)).toArray 3)) := by
    intro w
    have := run_make (P := Tryz.prog) w 87 3 i0 (.int .i64 0) Tryz.underlying87 hi hz0 .i64 .i64 n n (by omega) (by omega) (by rw [hz2]; omega) (by omega)
    rw [this]
    simp only [Int.toNat_natCast, hz1, Value.cells]
    rw [madeZeros]
  have h1' : ¬ (n : Int) < 1 := by omega
  have h2' : ¬ 1024 < (n : Int) := by omega
  clear hi hz0 hz1 hz2
  go_enter Tryz.func133, Tryz.ntmps133
  go_wp2
  go_ret2
  have ha : (w.alloc (.cells (ints (List.replicate n 0)).toArray 3)).heap[w.heap.size]? = some (.cells (ints (List.replicate n 0)).toArray 3) := heap_alloc_last w _ rfl
  refine ⟨rfl, ⟨heap_alloc_last _ _ (by simp), ?_, by simp [Value.ownBlock], by simpa using h2⟩, ((Below.refl _ _).alloc (Nat.le_refl _) _).alloc (by simp) _, by simp⟩
  refine ⟨by simp, .inr ⟨w.heap.size, 0, n, (ints (List.replicate n 0)).toArray, by simp, ?_, by simp, by unfold maxLen; omega, by simp, ?_⟩⟩
  · rw [Below.heap_alloc _ _ _ (by simp)]; exact ha
  · intro j u hj; simpa using hj
section
variable {w : World} {b : Nat} {v : Value} {l : List Int}
theorem clone_any {w : World} {v : Value} {l : List Int} (h : Rd w 1 v l.length (ints l)) (hle : l.length ≤ 4096) :
    Calls Tryz.prog 113 #[v] w fun e w' => ∃ v', e = .returned v' ∧ Sl w' 3 1 v' l.length (ints l) ∧ From w.heap.size v' ∧ Below w.heap.size w w' := by
  obtain ⟨i0, hi, hz0, hz1, hz2⟩ := info_parts infoI
  have H := Lib.hid h
  obtain ⟨hl, hm, ao, c, rfl, h0, _⟩ := h
  have q34 := fun (w : World) (a : Option Addr) (n c : Nat) => Lib.run_eql_slice_nil (P := Tryz.prog) w 87 3 a n c 0 0 Tryz.underlying87
  cases ao with
  | none =>
    have hn := h0 rfl
    obtain rfl : l = [] := List.eq_nil_of_length_eq_zero hn
    clear h0 hl
    go_enter Tryz.func113, Tryz.ntmps113
    go_wp2
    go_ret
    exact ⟨_, rfl, by simpa using Sl.nil _ _ _, From.nil _ _ _, Below.refl _ _⟩
  | some a =>
    clear h0 hl
    have hs0 : Sl (w.alloc (.cells #[] 3)) 3 1 (.slice (some ⟨w.heap.size, 0, none⟩) 0 0) 0 [] :=
      ⟨by simp, .inr ⟨w.heap.size, 0, 0, #[], rfl, heap_alloc_last _ _ rfl, by simp, by simp [maxLen], by simp, by simp⟩⟩
    have HR : Hid (Rd (w.alloc (.cells #[] 3)) 1 (.slice (some a) l.length c) l.length (ints l)) := H.out.keep ((Upd.refl (fun _ => False) _).alloc _) (fun _ _ h => h)
    go_enter Tryz.func113, Tryz.ntmps113
    go_wp2_with (at_builtin; refine wpList_append_sl rfl _ _ 87 rfl i0 (.int .i64 0) 8 Tryz.underlying87 hi hz0 hz1 hz2 rfl (by decide) rfl hs0 _ l.length (ints l) rfl HR.out (by simp [ints, Value.oneCell']) (by unfold maxLen; omega) (by omega) ?_)
    intro v' w2 hs2 hu2 hb2
    go_wp2
    go_ret
    refine ⟨_, rfl, by simpa using hs2, ?_, ?_⟩
    · exact hb2.ge (by simp) (by intro g hg; simp [Value.ownBlock] at hg; omega)
    · refine below_upd ((Below.refl _ _).alloc (Nat.le_refl _) _) hu2 (Nat.le_refl _) (by intro k hk; simp [ownS, Value.ownBlock] at hk; omega)
end
end Go.Proofs.YtfhfbpmlnjdfoaaGreatDoor
