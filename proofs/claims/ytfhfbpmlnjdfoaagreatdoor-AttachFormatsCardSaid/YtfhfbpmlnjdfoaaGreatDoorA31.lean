/- The super that a sector is. The super that a sector is: GetSuper. attach.Super, where nothing is planned. -/
import Derived.Test.YtfhfbpmlnjdfoaaGreatDoorA06
import Derived.Test.YtfhfbpmlnjdfoaaGreatDoorA30
import Derived.Test.YtfhfbpmlnjdfoaaGreatDoorA07
import Derived.Test.YtfhfbpmlnjdfoaaGreatDoorA09
import Derived.Test.YtfhfbpmlnjdfoaaGreatDoorA11
namespace Go.Proofs.YtfhfbpmlnjdfoaaGreatDoor
open Go Go.RowKit
def zeroS : List Value := [Value.int .i64 0, .int .i64 0, .int .i64 0, .int .i64 0, .int .i64 0, .int .i64 0, .int .i64 0]
theorem zS_one : (zeroS.toArray).all (·.oneCell') = true := by simp [zeroS, Value.oneCell']
set_option maxRecDepth 100000 in
set_option maxHeartbeats 2000000 in
theorem getS_any {w : World} (b : Bk) (hb : b.length = 64) (k : Nat) (ss : List Nat) (hss : (∀ s ∈ ss, 1 ≤ s ∧ s ≤ 7) ∧ ss.sum ≤ 59) (m : Nat) (hm : ss.length = m) (hm2 : m ≤ 100) (gs cl : Nat) (fm fb : Nat) (cm cb : Array Value) (tv : Value) (mb : Bool) (ds : List Value)
    (hds : (Tryz.prog.info? 40).map (·.size) = some ds.length) (hd1 : ∀ v ∈ ds, v.oneCell' = true) (hs : w.rangeAt gs 0 (ints (natsI ss))) (hN : Nib w)
    (entM : ∀ args w, (callFunc fm args).run Tryz.prog w = .ok (.enter fm args) w) (entB : ∀ args w, (callFunc fb args).run Tryz.prog w = .ok (.enter fb args) w)
    (hmay : ∀ W gl c, c = m → Below w.heap.size w W → W.rangeAt gl 0 (ints (natsI (numsAt b 1 ss))) → Calls Tryz.prog fm (#[.slice (some ⟨gl, 0, none⟩) m c] ++ cm) W fun e W' => e = .returned (.bool mb) ∧ Below W.heap.size W W')
    (hbuild : okGet b k ss mb = true → ∀ W gl c, c = m → Below w.heap.size w W → W.rangeAt gl 0 (ints (natsI (numsAt b 1 ss))) → Calls Tryz.prog fb (#[.slice (some ⟨gl, 0, none⟩) m c] ++ cb) W fun e W' => e = .returned (.agg ds.toArray) ∧ Below W.heap.size W W') :
    Calls Tryz.prog 129 #[.agg #[.int .i64 (k : Int), .slice (some ⟨gs, 0, none⟩) m cl, tv, .func (.func fm) #[] cm, .func (.func fb) #[] cb], .agg (bkC b).toArray] w
      (GetPost w (okGet b k ss mb) ds zeroS (cdGet b k ss mb)) := by
  have H := Lib.hid (And.intro hs (And.intro hN (And.intro hmay (And.intro hbuild (And.intro hss hm)))))
  have HC := Lib.hid (And.intro hds (And.intro hd1 hb))
  clear hs hN hmay hbuild hss hm hds hd1 hb
  have hr : ((w.alloc (.cells #[.int .i64 (k : Int), .slice (some ⟨gs, 0, none⟩) m cl, tv, .func (.func fm) #[] cm, .func (.func fb) #[] cb] 137)).alloc (.cells (bkC b).toArray 54)).rangeAt (w.heap.size + 1) 0 (bkC b) := range_of_block (heap_alloc_last _ _ (by simp))
  go_enter Tryz.func129, Tryz.ntmps129
  go_wp2_with (first
    | (refine wpList_load_mid rfl _ _ rfl _ _ rfl _ _ (World.rangeAt_alloc (World.rangeAt_alloc hr _) _) Tryz.underlying54 rfl (sizeBk _ HC.out.2.2) ?_)
    | fail)
  show Calls _ _ _ ((((w.alloc (.cells #[.int .i64 (k : Int), .slice (some ⟨gs, 0, none⟩) m cl, tv, .func (.func fm) #[] cm, .func (.func fb) #[] cb] 137)).alloc (.cells (bkC b).toArray 54)).alloc (.cells zeroS.toArray 40)).alloc (.cells zeroS.toArray 40)) _
  obtain ⟨Z, hZ⟩ : ∃ Z : List Value, Z = zeroS := ⟨_, rfl⟩
  rw [← hZ]
  have hZs : Hid (Z.toArray.size = 7) := by show _ = _; rw [hZ]; rfl
  have hZl : Hid (Z.length = 7) := by show _ = _; rw [hZ]; rfl
  have hsZ : Hid ((Tryz.prog.info? 40).map (·.size) = some Z.length) := by show _ = _; rw [hZ]; exact infoThS
  have hsA : Hid ((Tryz.prog.info? 40).map (·.size) = some Z.toArray.size) := by show _ = _; rw [hZ]; exact infoThS
  have hZ1 : Hid ((Z.toArray).all (·.oneCell') = true) := by show _ = _; rw [hZ]; exact zS_one
  have HZ := Lib.hid hZ
  clear hZ
  obtain ⟨h1, h2, h3, h4, h5, h6⟩ := four_new w (.cells #[.int .i64 (k : Int), .slice (some ⟨gs, 0, none⟩) m cl, tv, .func (.func fm) #[] cm, .func (.func fb) #[] cb] 137) (.cells (bkC b).toArray 54) (.cells Z.toArray 40) (.cells Z.toArray 40)
  clear hr
  generalize (((w.alloc (.cells #[.int .i64 (k : Int), .slice (some ⟨gs, 0, none⟩) m cl, tv, .func (.func fm) #[] cm, .func (.func fb) #[] cb] 137)).alloc (.cells (bkC b).toArray 54)).alloc (.cells Z.toArray 40)).alloc (.cells Z.toArray 40) = w4 at *
  refine (sealed_any b HC.out.2.2 (H.out.2.1.keep h6 (fun h => h))).mono ?_
  rintro e w5 ⟨rfl, hb5⟩
  have hu5 : Upd (fun _ => False) w4 w5 := Upd.of_below hb5
  have g1 := (hu5.block _ (lt_of_block h1) (fun h => h)).trans h1
  have g2 := (hu5.block _ (lt_of_block h2) (fun h => h)).trans h2
  have g3 := (hu5.block _ (lt_of_block h3) (fun h => h)).trans h3
  have g4 := (hu5.block _ (lt_of_block h4) (fun h => h)).trans h4
  have hz5 := hu5.size
  have H5 := Lib.hid (And.intro g1 (And.intro g2 (And.intro g3 (And.intro g4 (And.intro (h6.trans hu5) (And.intro h5 hz5))))))
  clear h1 h2 h3 h4 h5 h6 g1 g2 g3 g4 hu5 hb5 hz5
  by_cases hsl : sealB b = b
  · have hsc : sealedC b = 0 := if_pos hsl
    rw [hsc]
    clear hsc
    have HS := Lib.hid hsl
    clear hsl
    obtain ⟨g1, g2, g3, g4, u5, z4, z5⟩ := H5.out
    have r5 := range_of_block g2
    clear g1 g2 g3 g4 u5
    go_wp2_with (first
      | (refine wpList_load_mid rfl _ _ rfl _ _ rfl _ _ r5 Tryz.underlying54 rfl (sizeBk _ HC.out.2.2) ?_)
      | fail)
    refine (rread b HC.out.2.2).mono ?_
    rintro e w6 ⟨g, rfl, hR6, hge, hb6⟩
    have HX := Lib.hid (And.intro hR6 hb6)
    clear hR6 hb6
    go_wp2_with fail
    refine (rtake HX.out.1 1 (by decide) (by decide) (by decide)).mono ?_
    rintro e w7 ⟨rfl, hR7, hU7⟩
    obtain ⟨kb, hkb⟩ : ∃ kb, kb = numB ((b.drop 0).take 1) := ⟨_, rfl⟩
    rw [← hkb]
    have HK := Lib.hid hkb
    clear hkb
    obtain ⟨g1, g2, g3, g4, u5, z4, z5⟩ := H5.out
    obtain ⟨hs, hN, -, -, hss, hm⟩ := H.out
    have u57 : Upd (fun j => j = g) w5 w7 := ((Upd.of_below (S := fun _ => False) HX.out.2).mono (fun _ _ h => h.elim)).trans hU7
    have u7 : Upd (fun j => j = g) w w7 := (u5.mono (fun _ _ h => h.elim)).trans u57
    have hM7 : w.heap.size + 4 ≤ w7.heap.size := by have := u57.size; omega
    have gM : w.heap.size + 4 ≤ g := by omega
    have m1 : w7.cell? ⟨w.heap.size, 1, none⟩ = some (.slice (some ⟨gs, 0, none⟩) m cl) := u57.cellv (cell_of_block g1 1) (by omega)
    have a1 := (u57.block _ (lt_of_block g1) (by omega)).trans g1
    have a3 := (u57.block _ (lt_of_block g3) (by omega)).trans g3
    have a4 := (u57.block _ (lt_of_block g4) (by omega)).trans g4
    have gslt : gs < w.heap.size ∨ m = 0 := by
      rcases Nat.eq_zero_or_pos m with h | h
      · exact .inr h
      · exact .inl (World.block_lt_of_cell? w _ (hs 0 _ (natsI_get (by omega))))
    have hs7 : ∀ i (hi : i < ss.length), w7.cell? ⟨gs, i, none⟩ = some (.int .i64 (ss[i] : Int)) := fun i hi => by
      have := u7.cellv (hs i _ (natsI_get hi)) (by omega)
      rwa [Nat.zero_add] at this
    have hua : Upd (fun _ => False) w7 (w7.alloc (.cells (ints (List.replicate m 0)).toArray 3)) := (Upd.refl _ _).alloc _
    have hgL := heap_alloc_last w7 (.cells (ints (List.replicate m 0)).toArray 3) rfl
    have hmk := makeInts m (by omega) w7
    have hR8 := hR7.keep hua (fun h => h)
    have hglt := hR7.lt
    have m18 : (w7.alloc (.cells (ints (List.replicate m 0)).toArray 3)).cell? ⟨w.heap.size, 1, none⟩ = some (.slice (some ⟨gs, 0, none⟩) m cl) := hua.cellv m1 (fun h => h)
    have H8 := Lib.hid (And.intro hua (And.intro hgL (And.intro hR8 (And.intro a1 (And.intro a3 (And.intro a4 (And.intro hs7 (And.intro gslt (And.intro u7 (And.intro hss (And.intro hm hN)))))))))))
    clear g1 g2 g3 g4 u5 z4 hs hN hss hm u57 u7 a1 a3 a4 gslt hs7 hua hgL hR8 hU7 hR7 r5 z5
    go_wp2
    clear hmk m1
    generalize hW8 : w7.alloc (.cells (ints (List.replicate m 0)).toArray 3) = w8 at *
    have HW8 := Lib.hid hW8
    clear hW8
    generalize hL : w7.heap.size = L at *
    have HL := Lib.hid hL
    clear hL
    go_loopw [30] (fun s30 wr => ∃ i : Nat, i ≤ m ∧ s30 = .int .i64 i ∧ RdAt wr g b (1 + (ss.take i).sum) ∧ wr.heap[L]? = some (.cells (ints (fillI (numsAt b 1 ss) i)).toArray 3 (0, 0)) ∧ Upd (fun j => j = g ∨ j = L) w8 wr) (fun s30 _ => m - (intOf s30).toNat)
    case atStart => exact ⟨0, Nat.zero_le _, rfl, by simpa using H8.out.2.2.1, by rw [H8.out.2.1]; simp [fillI, natsI, numsAt_len, H8.out.2.2.2.2.2.2.2.2.2.2.1], Upd.refl _ _⟩
    case round =>
      obtain ⟨i, hi, rfl, hR, hL, hu⟩ := hrel
      obtain ⟨hua, hgL, hR8, a1, a3, a4, hs7, gslt, u7, hss, hm, hN⟩ := H8.out
      by_cases hlt : i < m
      · have hil : i < ss.length := by omega
        have x1 : wr.cell? ⟨gs, i, none⟩ = some (.int .i64 (ss[i] : Int)) := hu.cellv (hua.cellv (hs7 i hil) (fun h => h)) (by omega)
        have hsi := hss.1 ss[i] (List.getElem_mem hil)
        obtain ⟨t1, t2⟩ := sum_take ss hil
        have hng : ¬ L = g := by omega
        have hcx : ∃ v, wr.cell? ⟨L, i, none⟩ = some v := by
          rw [cell_of_block hL]
          exact ⟨_, Array.getElem?_eq_getElem (by rw [List.size_toArray, length_ints, fillI_len _ (by rw [numsAt_len]; omega), numsAt_len]; omega)⟩
        have hnx : Hid ((ints (fillI (numsAt b 1 ss) i)).toArray.setIfInBounds i (.int .i64 ((numB ((b.drop (1 + (ss.take i).sum)).take ss[i]) : Nat) : Int)) = (ints (fillI (numsAt b 1 ss) (i + 1))).toArray) := by
          show _ = _
          rw [List.setIfInBounds_toArray, ints_set, ← numsAt_get b 1 ss i hil, fillI_set _ (by rw [numsAt_len]; exact hil)]
        have hsum : Hid (1 + (ss.take (i + 1)).sum = 1 + (ss.take i).sum + ss[i]) := by show _ = _; omega
        have b1 : (0 : Int) ≤ (i : Int) ∧ (i : Int) < (m : Int) := by omega
        have hbd : 1 + (ss.take i).sum + ss[i] ≤ 60 := by omega
        have HX2 := Lib.hid (And.intro hR (And.intro hL (And.intro hu (And.intro hsi (And.intro hbd hcx)))))
        clear hua hgL hR8 a1 a3 a4 hs7 gslt u7 hss hm hN t1 t2 hR hL hu hcx hbd hsi
        obtain ⟨b1, b2⟩ := b1
        generalize ss[i] = si at *
        go_wp2_with fail
        refine (rtake HX2.out.1 si HX2.out.2.2.2.1.1 HX2.out.2.2.2.1.2 HX2.out.2.2.2.2.1).mono ?_
        rintro e w9 ⟨rfl, hR9, hU9⟩
        have hL9 := (hU9.block L (lt_of_block HX2.out.2.1) hng).trans HX2.out.2.1
        obtain ⟨v0, hv0⟩ := HX2.out.2.2.2.2.2
        have c9 := hU9.cellv hv0 hng
        have z9 := frozen_of_block hL9 i
        have hL10 := heap_setCell_same hL9 i (.int .i64 ((numB ((b.drop (1 + (ss.take i).sum)).take si) : Nat) : Int))
        rw [hnx.out] at hL10
        have hR10 := hR9.keep (upd_setCell w9 L i (.int .i64 ((numB ((b.drop (1 + (ss.take i).sum)).take si) : Nat) : Int))) (fun e => hng e.symm)
        rw [← hsum.out] at hR10
        have hU10 : Upd (fun j => j = g ∨ j = L) w8 (w9.setCell ⟨L, i, none⟩ (.int .i64 ((numB ((b.drop (1 + (ss.take i).sum)).take si) : Nat) : Int))) :=
          HX2.out.2.2.1.trans ((hU9.mono (fun _ _ h => .inl h)).trans ((upd_setCell _ _ _ _).mono (fun _ _ h => .inr h)))
        have HZ := Lib.hid (And.intro hR10 (And.intro hL10 hU10))
        clear hL9 hv0 hL10 hR10 hU10 hU9 hR9
        go_wp2
        go_roundw
        case rel => exact ⟨i + 1, by omega, by go_num, HZ.out.1, HZ.out.2.1, HZ.out.2.2⟩
        case measure => simp [intOf]; omega
      · obtain rfl : i = m := by omega
        rw [List.take_of_length_le (by omega)] at hR
        have hl5 : i = (numsAt b 1 ss).length := by rw [numsAt_len]; omega
        rw [show fillI (numsAt b 1 ss) i = natsI (numsAt b 1 ss) by rw [hl5]; exact fillI_all _] at hL
        clear hl5
        have u8r : Upd (fun j => j = g ∨ j = L) w7 wr := (hua.mono (fun _ _ h => h.elim)).trans hu
        have hLw : w.heap.size + 4 ≤ L := hM7
        have hlw : Below w.heap.size w wr := by
          refine below_upd (below_upd (Below.refl _ w) u7 (Nat.le_refl _) (fun k e => by omega)) u8r (Nat.le_refl _) (fun k e => by omega)
        have e1 := (u8r.block _ (lt_of_block a1) (by omega)).trans a1
        have e3 := (u8r.block _ (lt_of_block a3) (by omega)).trans a3
        have e4 := (u8r.block _ (lt_of_block a4) (by omega)).trans a4
        have hErr : ∀ W, Below wr.heap.size wr W → W.rangeAt (w.heap.size + 1 + 1 + 1) 0 Z ∧ W.there (w.heap.size + 1 + 1) 0 7 ∧ Below w.heap.size w W := fun W hW => by
          have f3 := (hW.block _ (lt_of_block e3)).trans e3
          refine ⟨range_of_block ((hW.block _ (lt_of_block e4)).trans e4), fun j hj => ?_, hlw.trans (hW.mono hlw.size)⟩
          rw [cell_of_block f3, frozen_of_block f3]
          exact ⟨by rw [Nat.zero_add, Array.getElem?_eq_getElem (by have := hZl.out; simp; omega)]; rfl, rfl⟩
        have m0 : wr.cell? ⟨w.heap.size, 0, none⟩ = some (.int .i64 (k : Int)) := cell_of_block e1 0
        have m3 : wr.cell? ⟨w.heap.size, 3, none⟩ = some (.func (.func fm) #[] cm) := cell_of_block e1 3
        have m4 : wr.cell? ⟨w.heap.size, 4, none⟩ = some (.func (.func fb) #[] cb) := cell_of_block e1 4
        have HE := Lib.hid (And.intro hErr (And.intro m3 (And.intro m4 (And.intro hR (And.intro (range_of_block hL) hlw)))))
        obtain ⟨rz, tz, hbz⟩ := hErr wr (Below.refl _ _)
        clear hua hgL hR8 a1 a3 a4 hs7 gslt u7 hss hm hN hR hL hu u8r hlw e1 e3 e4 hErr m3 m4
        by_cases hkk : kb = k
        · have hq : ((kb : Int) == (k : Int)) = true := by rw [hkk]; simp
          have hq2 : ((kb : Int) != (k : Int)) = false := by rw [hkk]; simp
          have HKK := Lib.hid hkk
          clear hkk rz tz hbz
          go_wp2_with fail
          refine (rend HE.out.2.2.2.1).mono ?_
          rintro e w10 ⟨rfl, hb10⟩
          obtain ⟨rz, tz, hbz⟩ := HE.out.1 w10 hb10
          have m3 := (Upd.of_below (S := fun _ => False) hb10).cellv HE.out.2.1 (fun h => h)
          have m4 := (Upd.of_below (S := fun _ => False) hb10).cellv HE.out.2.2.1 (fun h => h)
          have rL := Below.range hb10 HE.out.2.2.2.2.1
          have H10 := Lib.hid (And.intro hb10 (And.intro rL m4))
          clear rL m4 hb10
          have HBz := Lib.hid hbz
          clear hbz
          by_cases hen : endB b (1 + ss.sum) = true
          · have he0 : endC b (1 + ss.sum) = 0 := if_pos hen
            rw [he0]
            clear he0 rz tz
            have HEN := Lib.hid hen
            clear hen
            go_wp2_with fail
            refine (H.out.2.2.1 w10 L i rfl HBz.out H10.out.2.1).mono ?_
            rintro e w11 ⟨rfl, hb11⟩
            obtain ⟨rz, tz, hbz11⟩ := HE.out.1 w11 (H10.out.1.trans (hb11.mono H10.out.1.size))
            have m4 := (Upd.of_below (S := fun _ => False) hb11).cellv H10.out.2.2 (fun h => h)
            have rL := Below.range hb11 H10.out.2.1
            have HBz11 := Lib.hid hbz11
            have HRL := Lib.hid rL
            have HBz11b := Lib.hid hb11
            clear rL hbz11 hb11
            cases mb with
            | true =>
              have HR : Hid (okGet b k ss true = true) := by
                show _ = _
                simp only [okGet, HS.out, HEN.out, decide_true, Bool.true_and, Bool.and_true, decide_eq_true_eq]
                have := HK.out
                rw [List.drop_zero] at this
                rw [← this, HKK.out]
              clear rz tz
              go_wp2_with fail
              refine (H.out.2.2.2.1 HR.out w11 L i rfl HBz11.out HRL.out).mono ?_
              rintro e w12 ⟨rfl, hb12⟩
              obtain ⟨-, tz, hbz12⟩ := HE.out.1 w12 ((H10.out.1.trans ((HBz11b.out).mono H10.out.1.size)).trans (hb12.mono (by have := H10.out.1.size; have := HBz11b.out.size; omega)))
              have hdl : ds.length = 7 := by have h1 := HC.out.1; rw [infoThS] at h1; injection h1 with h1; exact h1.symm
              have hst : w12.there (w.heap.size + 1 + 1) 0 ds.toArray.size := by rw [show ds.toArray.size = 7 by simpa using hdl]; exact tz
              have hst2 : w12.there (w.heap.size + 1 + 1) 0 ds.length := by rw [hdl]; exact tz
              have hsz2 : (Tryz.prog.info? 40).map (·.size) = some ds.toArray.size := by rw [show ds.toArray.size = 7 by simpa using hdl]; exact infoThS
              have HST := Lib.hid (And.intro hst (And.intro hsz2 (And.intro hst2 hbz12)))
              clear hst hsz2 hst2 hdl hbz12 tz hb12
              go_wp2_with (first
                | (refine wpList_store_mid rfl _ _ _ rfl _ _ ds.toArray rfl rfl HST.out.1 HST.out.2.1 (all_oneCell_toArray HC.out.2.1) ?_)
                | fail)
              exact bodyPost_ret (results_mid2 rfl _ _ (w.heap.size + 1 + 1) 0 ds _ rfl (World.rangeAt_setCells_same _ _ _ _ HST.out.2.2.1) Tryz.underlying40 rfl HC.out.1) rfl
                ⟨⟨ds, fun _ => rfl, fun h => (by rw [HR.out] at h; cases h), by rw [show cdGet b k ss true = 0 from if_pos HR.out]; rfl⟩, below_upd HST.out.2.2.2 (upd_row _ (w.heap.size + 1 + 1) 0 _) (Nat.le_refl _) (fun k e => by omega)⟩
            | false =>
              have HR : Hid (okGet b k ss false = false) := by show _ = _; simp [okGet]
              go_wp2_with (first
                | (refine wpList_load_mid rfl _ _ rfl _ _ rfl _ _ rz Tryz.underlying40 rfl hsZ.out ?_)
                | (refine wpList_store_mid rfl _ _ _ rfl _ _ Z.toArray rfl rfl (by rw [hZs.out]; exact tz) hsA.out hZ1.out ?_)
                | fail)
              exact bodyPost_ret (results_mid2 rfl _ _ (w.heap.size + 1 + 1) 0 Z _ rfl (World.rangeAt_setCells_same _ _ _ _ (by first | (rw [hZs.out]; exact tz) | (rw [hZl.out]; exact tz))) Tryz.underlying40 rfl hsZ.out) rfl
                ⟨⟨_, fun h => (by rw [HR.out] at h; cases h), fun _ => rfl, by rw [okGet_no HS.out HR.out, HZ.out]; rfl⟩, below_upd HBz11.out (upd_row _ (w.heap.size + 1 + 1) 0 _) (Nat.le_refl _) (fun k e => by omega)⟩
          · have he0 : endC b (1 + ss.sum) = 12 := if_neg hen
            rw [he0]
            clear he0
            have HR : Hid (okGet b k ss mb = false) := by show _ = _; simp [okGet, hen]
            clear hen
            go_wp2_with (first
              | (refine wpList_load_mid rfl _ _ rfl _ _ rfl _ _ rz Tryz.underlying40 rfl hsZ.out ?_)
              | (refine wpList_store_mid rfl _ _ _ rfl _ _ Z.toArray rfl rfl (by rw [hZs.out]; exact tz) hsA.out hZ1.out ?_)
              | fail)
            exact bodyPost_ret (results_mid2 rfl _ _ (w.heap.size + 1 + 1) 0 Z _ rfl (World.rangeAt_setCells_same _ _ _ _ (by first | (rw [hZs.out]; exact tz) | (rw [hZl.out]; exact tz))) Tryz.underlying40 rfl hsZ.out) rfl
              ⟨⟨_, fun h => (by rw [HR.out] at h; cases h), fun _ => rfl, by rw [okGet_no HS.out HR.out, HZ.out]; rfl⟩, below_upd HBz.out (upd_row _ (w.heap.size + 1 + 1) 0 _) (Nat.le_refl _) (fun k e => by omega)⟩
        · have hq : ((kb : Int) == (k : Int)) = false := by rw [beq_eq_false_iff_ne]; omega
          have hq2 : ((kb : Int) != (k : Int)) = true := by rw [bne_iff_ne]; omega
          have HR : Hid (okGet b k ss mb = false) := by
            show _ = _
            have := HK.out
            rw [List.drop_zero] at this
            simp [okGet, ← this, hkk]
          have HBz := Lib.hid hbz
          clear hkk hbz
          go_wp2_with (first
            | (refine wpList_load_mid rfl _ _ rfl _ _ rfl _ _ rz Tryz.underlying40 rfl hsZ.out ?_)
            | (refine wpList_store_mid rfl _ _ _ rfl _ _ Z.toArray rfl rfl (by rw [hZs.out]; exact tz) hsA.out hZ1.out ?_)
            | fail)
          exact bodyPost_ret (results_mid2 rfl _ _ (w.heap.size + 1 + 1) 0 Z _ rfl (World.rangeAt_setCells_same _ _ _ _ (by first | (rw [hZs.out]; exact tz) | (rw [hZl.out]; exact tz))) Tryz.underlying40 rfl hsZ.out) rfl
            ⟨⟨_, fun h => (by rw [HR.out] at h; cases h), fun _ => rfl, by rw [okGet_no HS.out HR.out, HZ.out]; rfl⟩, below_upd HBz.out (upd_row _ (w.heap.size + 1 + 1) 0 _) (Nat.le_refl _) (fun k e => by omega)⟩
  · have hsc : sealedC b = 13 := if_neg hsl
    have hres := okGet_seal (k := k) (ss := ss) (mb := mb) hsl
    rw [hsc]
    have HR := Lib.hid hres
    clear hsc hsl hres
    obtain ⟨g1, g2, g3, g4, u5, z4, z5⟩ := H5.out
    have r4 := range_of_block g4
    have hth : w5.there (w.heap.size + 1 + 1) 0 7 := fun j hj => by
      rw [cell_of_block g3, frozen_of_block g3]
      exact ⟨by rw [Nat.zero_add, Array.getElem?_eq_getElem (by have := hZl.out; simp; omega)]; rfl, rfl⟩
    have HU := Lib.hid u5
    clear g1 g2 g3 g4 u5 z4 z5
    go_wp2_with (first
      | (refine wpList_load_mid rfl _ _ rfl _ _ rfl _ _ r4 Tryz.underlying40 rfl hsZ.out ?_)
      | (refine wpList_store_mid rfl _ _ _ rfl _ _ Z.toArray rfl rfl (by rw [hZs.out]; exact hth) hsA.out hZ1.out ?_)
      | fail)
    refine bodyPost_ret (results_mid2 rfl _ _ (w.heap.size + 1 + 1) 0 Z _ rfl (World.rangeAt_setCells_same _ _ _ _ (by first | (rw [hZs.out]; exact hth) | (rw [hZl.out]; exact hth))) Tryz.underlying40 rfl hsZ.out) rfl
      ⟨⟨_, fun h => (by rw [HR.out.1] at h; cases h), fun _ => rfl, by rw [HR.out.2, HZ.out]; rfl⟩, below_upd (Upd.below HU.out) (upd_row w5 (w.heap.size + 1 + 1) 0 _) (Nat.le_refl _) (fun k e => by omega)⟩
def numsS (b : Bk) : List Nat := numsAt b 1 szS
def okS (b : Bk) : Bool := okGet b 1 szS (mayS (natsI (numsS b)))
def cdS (b : Bk) : Int := cdGet b 1 szS (mayS (natsI (numsS b)))
def GetSPost (w : World) (b : Bk) : Ending → World → Prop := GetPost w (okS b) (dsS (natsI (numsS b))) zeroS (cdS b)
set_option maxRecDepth 100000 in
theorem getS_form {w : World} {gs gt : Nat} (hF : FormS w gs gt) (hN : Nib w) (b : Bk) (hb : b.length = 64) :
    Calls Tryz.prog 129 #[formSV gs gt, .agg (bkC b).toArray] w (GetSPost w b) := by
  obtain ⟨hs, hB⟩ := hF
  refine getS_any (w := w) b hb 1 szS ⟨by simp [szS], by decide⟩ 7 rfl (by decide) gs 7 196 127 #[.pointer (some ⟨gt, 0, none⟩)] #[] (.func (.func 125) #[] #[]) (mayS (natsI (numsS b))) (dsS (natsI (numsS b)))
    (by rw [dsS_len]; exact infoThS) (dsS_one _) hs hN (fun _ _ => rfl) (fun _ _ => rfl) ?_ ?_
  · intro W gl c hc hW hr
    subst hc
    exact mayS_any _ (by show (natsI (numsAt b 1 _)).length = 7; simp [natsI, numsAt_len, szS]) (Nat.le_refl _) (by decide) (hB.below hW) hr
  · intro _ W gl c hc hW hr
    subst hc
    exact buildS _ (by show (natsI (numsAt b 1 _)).length = 7; simp [natsI, numsAt_len, szS]) hr
set_option maxRecDepth 100000 in
set_option maxHeartbeats 1000000 in
theorem GetS_any {w : World} (hN : Nib w) (b : Bk) (hb : b.length = 64) :
    Calls Tryz.prog 68 #[.agg (bkC b).toArray] w (GetSPost w b) := by
  have HN := Lib.hid hN
  have Hb := Lib.hid hb
  clear hN hb
  go_enter Tryz.func68, Tryz.ntmps68
  go_wp2_with fail
  change Code.wp _ _ _ _ ((w.alloc (.cells (bkC b).toArray 54)).alloc (.cells zeroS.toArray 40))
  have hr : ((w.alloc (.cells (bkC b).toArray 54)).alloc (.cells zeroS.toArray 40)).rangeAt w.heap.size 0 (bkC b) := World.rangeAt_alloc (range_of_block (heap_alloc_last w _ rfl)) _
  have hg : ((w.alloc (.cells (bkC b).toArray 54)).alloc (.cells zeroS.toArray 40)).heap[w.heap.size + 1]? = some (.cells zeroS.toArray 40) := heap_alloc_last _ _ (by simp)
  have hu : Upd (fun _ => False) w ((w.alloc (.cells (bkC b).toArray 54)).alloc (.cells zeroS.toArray 40)) := ((Upd.refl _ w).alloc _).alloc _
  generalize (w.alloc (.cells (bkC b).toArray 54)).alloc (.cells zeroS.toArray 40) = w2 at *
  have hb2 : Below w.heap.size w w2 := Upd.below hu
  refine wp_region_held_drew (S := fun W => W.rangeAt w.heap.size 0 (bkC b)) (by kernel_rfl) (by rw [World.rangeAt_drew]; exact hr) (fun hHeld => ?_)
  refine Wl.l 1 (fun w h => h) Tryz.underlying54 (sizeBk _ Hb.out) hHeld ?_
  refine Wl.r 0 (fun K hK => ?_)
  go_simp
  refine (supers_any _).mono ?_
  rintro e w3 ⟨gs, gt, rfl, hF, hb3⟩
  have hb3' : Below w2.heap.size w2 w3 := bundrew' hb3
  refine hK.out _ _ (Below.range hb3 hHeld) (fun hHeld2 => ?_)
  clear hK K
  refine Wl.r 2 (fun K hK => ?_)
  go_simp
  refine (getS_form hF ((HN.out.keep hu (fun h => h)).below hb3') b Hb.out).mono ?_
  rintro e w4 ⟨⟨rs, hr1, hr2, rfl⟩, hb4⟩
  have hb4' : Below w2.heap.size w2 w4 := hb3'.trans (hb4.mono hb3'.size)
  have hg4 := (hb4'.block _ (lt_of_block hg)).trans hg
  have hth : w4.there (w.heap.size + 1) 0 7 := fun j hj => by
    rw [cell_of_block hg4, frozen_of_block hg4]
    exact ⟨by rw [Nat.zero_add, Array.getElem?_eq_getElem (by rw [List.size_toArray]; exact hj)]; rfl, rfl⟩
  have hrl : rs.length = 7 ∧ ∀ v ∈ rs, v.oneCell' = true := by
    cases hk : okS b with
    | true => rw [hr1 hk]; exact ⟨dsS_len _, dsS_one _⟩
    | false => rw [hr2 hk]; exact ⟨rfl, List.all_eq_true.1 (by simp [zeroS, Value.oneCell'] : zeroS.all (·.oneCell') = true)⟩
  have hst : w4.there (w.heap.size + 1) 0 rs.toArray.size := by rw [show rs.toArray.size = 7 by simpa using hrl.1]; exact hth
  have hst2 : w4.there (w.heap.size + 1) 0 rs.length := by rw [hrl.1]; exact hth
  have hsz2 : (Tryz.prog.info? 40).map (·.size) = some rs.toArray.size := by rw [show rs.toArray.size = 7 by simpa using hrl.1]; exact infoThS
  have hsz3 : (Tryz.prog.info? 40).map (·.size) = some rs.length := by rw [hrl.1]; exact infoThS
  have hU5 : Below w.heap.size w (w4.setCells (w.heap.size + 1) 0 rs) := below_upd (hb2.trans (hb4'.mono hu.size)) (upd_row w4 (w.heap.size + 1) 0 _) (Nat.le_refl _) (fun k e => by omega)
  refine hK.out _ _ (Below.range hb4 hHeld2) (fun hHeld3 => ?_)
  clear hK K
  refine Wl.i [3, 4] ?_; iterate 2 refine Wl.t hHeld3 ?_
  refine Wl.o ?_
  refine Wl.r 5 (fun K hK => ?_)
  rw [if_pos (by rfl)]
  refine wp_store_mid _ _ _ rfl _ _ (List.toArray _) rfl rfl (hst) (hsz2) (all_oneCell_toArray hrl.2) ?_
  simp only [Act.put, List.setIfInBounds_toArray]
  refine hK.out _ _ ((upd_row w4 (w.heap.size + 1) 0 rs).range hHeld3 (by omega)) (fun hHeld4 => ?_)
  clear hK K
  refine Wl.r 6 (fun K hK => ?_)
  go_simp
  refine hK.out _ _ (hHeld4) (fun _ => ?_)
  clear hK K
  refine Wl.d ?_
  have HE := Lib.hid (And.intro hU5 (And.intro hst2 (And.intro hsz3 (And.intro hr1 hr2))))
  clear hst hst2 hsz2 hsz3 hU5 hth hg4 hb4 hb4' hb3 hb3' hHeld hHeld2 hHeld3 hHeld4 hF hr hg hu hb2 hr1 hr2 hrl
  go_wp2
  exact bodyPost_ret (results_mid2 rfl _ _ (w.heap.size + 1) 0 rs _ rfl (World.rangeAt_setCells_same _ _ _ _ HE.out.2.1) Tryz.underlying40 rfl HE.out.2.2.1) rfl ⟨⟨rs, HE.out.2.2.2.1, HE.out.2.2.2.2, rfl⟩, HE.out.1⟩
def SupOut (S : Nat → Prop) (w : World) (b : Nat) (F : List Bk) (O : List (Nat × Bk)) (r : List Value × Int) (e : Ending) (w' : World) : Prop := e = .returned (.tuple #[.agg r.1.toArray, .int .i64 r.2]) ∧ Dv S w' b F O [] ∧ Upd S w w'
def supR (n : CaN) (F G : List Bk) (y : Bk) : List Value × Int := if okS y = true then (if F.length = n.size ∧ G.length = n.bl then (n.C, 0) else (zeroS, 22)) else (zeroS, cdS y)
theorem allocSup_run : ∀ w : World, (Instr.alloc 40 true (.tuple #[])).run Tryz.prog w = .ok (.pointer (some ⟨w.heap.size, 0, none⟩)) (w.alloc (.cells zeroS.toArray 40)) := by
  intro w; kernel_rfl
theorem buildSup_run : ∀ w : World, (Instr.build 40 #[]).run Tryz.prog w = .ok (.agg zeroS.toArray) w := by
  intro w; kernel_rfl
theorem wpList_build0 {ops : Array Oper} {rest : List Oper} {op : Oper} {a : Act} {w : World} {Q : Exit → Act → World → Prop} (hgd : op.guard = none) (t : TypeId) (ho : op.op = .build t #[]) {v : Value}
    (hrun : ∀ w : World, (Instr.build t #[]).run Tryz.prog w = .ok v w)
    (h : wpList Tryz.prog ops Q rest (a.put op.dst v) w) : wpList Tryz.prog ops Q (op :: rest) a w := by
  refine wpList_plain hgd fun K' hK' => ?_
  unfold Oper.wp
  simp only [execOp, ho, List.map_toArray, List.map_nil, Sem.run_bind, hrun, Result.andThen_ok]
  exact hK' _ _ h
theorem cdS_no {y : Bk} (h : okS y = false) : cdS y = 12 ∨ cdS y = 13 := by
  unfold okS at h
  unfold cdS cdGet
  rw [h, if_neg (by simp)]
  split
  · exact .inl rfl
  · exact .inr rfl
set_option maxRecDepth 100000 in
set_option maxHeartbeats 2000000 in
theorem asuper {S T : Nat → Prop} {w : World} {b bb : Nat} {F G : List Bk} {O Q : List (Nat × Bk)} {P : List Int} (hd : Dv S w b F O []) (hn : ∀ j, w.heap.size ≤ j → S j) (hb : Dv T w bb G Q P) (hT : ∀ j, T j → ¬ S j) (hN : Nib w) (hgS : ¬ S 0) (hF : 0 < F.length)
    (n : CaN) (hok : n.Ok) (hy : okS (curB F O 0) = true → dsS (natsI (numsS (curB F O 0))) = n.C) :
    Calls Tryz.prog 21 #[ptr b, ptr bb] w (SupOut S w b F O (supR n F G (curB F O 0))) := by
  obtain ⟨Z, hZ⟩ : ∃ Z, Z = zeroS := ⟨_, rfl⟩
  have hal := allocSup_run
  have hbu := buildSup_run
  simp only [← hZ] at hal hbu
  have HZZ : Hid (Z = zeroS ∧ Z.length = 7 ∧ Z.toArray.size = 7 ∧ (Tryz.prog.info? 40).map (·.size) = some Z.toArray.size ∧ (Z.toArray).all (·.oneCell') = true ∧ (Tryz.prog.info? 40).map (·.size) = some Z.length ∧ ∀ u ∈ Z, u.oneCell' = true) :=
    ⟨hZ, by rw [hZ]; rfl, by rw [hZ]; rfl, by rw [hZ]; exact infoThS, by rw [hZ]; exact zS_one, by rw [hZ]; exact infoThS, by rw [hZ]; exact List.all_eq_true.1 (by simp [zeroS, Value.oneCell'])⟩
  obtain ⟨y, hyy⟩ : ∃ y, y = curB F O 0 := ⟨_, rfl⟩
  obtain ⟨R, hR⟩ : ∃ R, R = supR n F G (curB F O 0) := ⟨_, rfl⟩
  rw [← hR]
  rw [← hyy] at hR hy
  have hyl : y.length = 64 := by rw [hyy]; exact curB_len hd.good 0
  obtain ⟨w1, hw1⟩ : ∃ w1, w1 = w.alloc (.cells Z.toArray 40) := ⟨_, rfl⟩
  have hu1 : Upd (fun _ => False) w w1 := by rw [hw1]; exact (Upd.refl _ w).alloc _
  have g1 : w1.heap[w.heap.size]? = some (.cells Z.toArray 40 (0, 0)) := by rw [hw1]; exact heap_alloc_last w _ rfl
  have z1 : w1.heap.size = w.heap.size + 1 := by rw [hw1]; simp
  have hd1 := (hd.but (Nat.le_refl _)).keep hu1 (fun _ _ h => h)
  have hn1 : ∀ j, w1.heap.size ≤ j → S j ∧ j ≠ w.heap.size := fun j hj => ⟨hn j (by omega), by omega⟩
  have HRd := Lib.hid (dreadR hd1 hn1 0 hF)
  have H := Lib.hid (And.intro hd1 (And.intro hn1 (And.intro hb (And.intro hT (And.intro hN (And.intro hgS (And.intro hok (And.intro hy hR))))))))
  have H1 := Lib.hid (And.intro hw1 (And.intro hu1 (And.intro g1 (And.intro z1 (And.intro hyy (hn _ (Nat.le_refl _)))))))
  have hsy := sizeBk y hyl
  clear hd hn hb hT hN hgS hF hok hy hR hd1 hn1 hw1 hu1 g1 z1 hyy hZ
  go_enter Tryz.func21, Tryz.ntmps21
  go_wp2_with (first
    | (refine wpList_allocZ rfl _ rfl _ hal ?_)
    | fail)
  rw [← H1.out.1]
  refine HRd.out.mono ?_
  rintro e w2 ⟨y2, cd2, rfl, hy2, hcd2, -, hd2, hu2⟩
  rw [if_neg (by decide)] at hy2 hcd2
  rw [← H1.out.2.2.2.2.1] at hy2
  subst hy2 hcd2
  have g2 := (hu2.block _ (lt_of_block H1.out.2.2.1) (fun h => h.2 rfl)).trans H1.out.2.2.1
  obtain ⟨w3, hw3⟩ : ∃ w3, w3 = w2.alloc (.cells (bkC y2).toArray 54) := ⟨_, rfl⟩
  have hu3 : Upd (fun _ => False) w2 w3 := by rw [hw3]; exact (Upd.refl _ w2).alloc _
  have r3 : w3.rangeAt w2.heap.size 0 (bkC y2) := by rw [hw3]; exact range_of_block (heap_alloc_last w2 _ rfl)
  have U3 : Upd (fun j => S j ∧ j ≠ w.heap.size) w1 w3 := hu2.trans (hu3.mono (fun _ _ h => h.elim))
  have hN3 : Nib w3 := (H.out.2.2.2.2.1.keep H1.out.2.1 (fun h => h)).keep U3 (fun h => H.out.2.2.2.2.2.1 h.1)
  have HG := Lib.hid (GetS_any hN3 y2 hyl)
  have H3 := Lib.hid (And.intro hw3 (And.intro U3 (And.intro (hd2.new hu3) (And.intro (hu3.blockv g2) hN3))))
  rw [hw3] at r3
  clear hd2 hu2 g2 hu3 U3 hN3 hw3 HRd
  go_wp2_with (first
    | (refine wpList_store_new rfl _ _ _ rfl _ _ (bkC y2) rfl rfl (by rw [bkC_len, hyl]; rfl) hsy (bkC_one y2) ?_)
    | (refine wpList_load_mid rfl _ _ rfl _ _ rfl _ _ r3 Tryz.underlying54 rfl hsy ?_)
    | fail)
  rw [← H3.out.1]
  refine HG.out.mono ?_
  rintro e w4 ⟨⟨rs, hr1, hr2, rfl⟩, hb4⟩
  have hu4 : Upd (fun _ => False) w3 w4 := Upd.of_below hb4
  have hrs : Hid (rs.length = 7 ∧ ∀ v ∈ rs, v.oneCell' = true) := by
    cases hk : okS y2 with
    | true => rw [hr1 hk]; exact ⟨dsS_len _, dsS_one _⟩
    | false => rw [hr2 hk]; exact ⟨rfl, List.all_eq_true.1 (by simp [zeroS, Value.oneCell'] : zeroS.all (·.oneCell') = true)⟩
  have hsr : Hid ((Tryz.prog.info? 40).map (·.size) = some rs.length) := by show _ = _; rw [hrs.out.1]; exact infoThS
  obtain ⟨w5, hw5⟩ : ∃ w5, w5 = w4.alloc (.cells rs.toArray 40) := ⟨_, rfl⟩
  have hu5 : Upd (fun _ => False) w4 w5 := by rw [hw5]; exact (Upd.refl _ w4).alloc _
  have U5 : Upd (fun j => S j ∧ j ≠ w.heap.size) w1 w5 := H3.out.2.1.trans ((hu4.trans hu5).mono (fun _ _ h => h.elim))
  have d5 := H3.out.2.2.1.new (hu4.trans hu5)
  have g5 := (hu4.trans hu5).blockv H3.out.2.2.2.1
  have r5 : w5.rangeAt w4.heap.size 0 rs := by rw [hw5]; exact range_of_block (heap_alloc_last w4 _ rfl)
  have tA := there_of_block (n := 7) g5 (by rw [HZZ.out.2.2.1]; exact Nat.le_refl _)
  have HE : Hid (∀ W', Upd (fun j => j = w.heap.size) w5 W' → Dv S W' b F O [] ∧ Upd S w W') := fun W' hu => ⟨(d5.keep hu (fun j h e => h.2 e)).wide (fun j h => h.1), ((H1.out.2.1.mono (fun _ _ h => h.elim)).trans (U5.mono (fun _ _ h => h.1))).trans (hu.mono (fun j _ e => by rw [e]; exact H1.out.2.2.2.2.2))⟩
  have H5 := Lib.hid (And.intro hw5 (And.intro d5 (And.intro g5 (And.intro r5 U5))))
  have HR12 := Lib.hid (And.intro hr1 hr2)
  clear hb4 hu4 hu5 U5 d5 g5 r3 hr1 hr2 HG
  rw [hw5] at tA r5
  have tA7 : (w4.alloc (.cells rs.toArray 40)).there w.heap.size 0 Z.toArray.size := by rw [HZZ.out.2.2.1]; exact tA
  cases hk : okS y2 with
  | false =>
    have e1 : R = (zeroS, cdS y2) := by rw [H.out.2.2.2.2.2.2.2.2]; unfold supR; rw [hk, if_neg (by simp)]
    have hcd := cdS_no hk
    have HK := Lib.hid (And.intro e1 hcd)
    have q0 : ¬ cdS y2 = 0 := by rcases hcd with h | h <;> rw [h] <;> decide
    have q1 : (cdS y2 == 0) = false := by simpa using q0
    have q2 : (cdS y2 != 0) = true := by simpa using q0
    clear e1 hcd hw5 hk
    generalize cdS y2 = cd at *
    go_wp2_with (first
      | (refine wpList_allocZ rfl _ rfl _ hal ?_)
      | (refine wpList_store_new rfl _ _ _ rfl _ _ rs rfl rfl (by rw [HZZ.out.2.2.1, hrs.out.1]) hsr.out hrs.out.2 ?_)
      | (refine wpList_build0 rfl _ rfl hbu ?_)
      | (refine wpList_store_mid rfl _ _ _ rfl _ _ Z.toArray rfl rfl tA7 HZZ.out.2.2.2.1 HZZ.out.2.2.2.2.1 ?_)
      | fail)
    rw [HK.out.1]
    refine bodyPost_ret (results_mid2 rfl _ _ w.heap.size 0 Z _ rfl (World.rangeAt_setCells_same _ _ _ _ (by rw [HZZ.out.2.1]; exact tA)) Tryz.underlying40 rfl HZZ.out.2.2.2.2.2.1) rfl ?_
    rw [← H5.out.1]
    have h := HE.out _ (upd_row w5 w.heap.size 0 Z)
    exact ⟨by rw [HZZ.out.1]; rfl, h.1, h.2⟩
  | true =>
    have e0 : cdS y2 = 0 := by unfold okS at hk; unfold cdS cdGet; rw [hk, if_pos rfl]
    have er : rs = n.C := (HR12.out.1 hk).trans (H.out.2.2.2.2.2.2.2.1 hk)
    have e1 : R = if F.length = n.size ∧ G.length = n.bl then (n.C, 0) else (zeroS, 22) := by rw [H.out.2.2.2.2.2.2.2.2]; unfold supR; rw [if_pos hk]
    have HK := Lib.hid (And.intro er e1)
    obtain ⟨V, hV⟩ : ∃ V, V = layC n.sl n.jo n.pa n.lo := ⟨_, rfl⟩
    have HPl : Hid (Calls Tryz.prog 14 #[.agg rs.toArray] w5 fun e w' => e = .returned (.tuple #[.agg V.toArray, .int .i64 0]) ∧ Below w5.heap.size w5 w') := by
      show Calls _ _ _ _ _
      rw [er, hV]
      obtain ⟨b1, b2, s1, s2, j1, j2, l1, l2, a1, a2, p1, p2, z⟩ := H.out.2.2.2.2.2.2.1
      exact plan_ok n.id n.bl n.sl n.jo n.pa n.lo n.ba b1 b2 s1 s2 j1 j2 l1 l2 a1 a2 p1 p2 z w5
    have hV7 : V.length = 7 := by rw [hV]; rfl
    have HV := Lib.hid (And.intro (show (Tryz.prog.info? 43).map (·.size) = some V.length by rw [hV]; exact infoLay) (And.intro (show ∀ v ∈ V, v.oneCell' = true by rw [hV]; exact layC_mem _ _ _ _) (And.intro hV7 hV)))
    rw [e0]
    clear e0 er e1 hV hV7 hw5 hk
    go_wp2_with (first
      | (refine wpList_allocZ rfl _ rfl _ hal ?_)
      | (refine wpList_store_new rfl _ _ _ rfl _ _ rs rfl rfl (by rw [HZZ.out.2.2.1, hrs.out.1]) hsr.out hrs.out.2 ?_)
      | (refine wpList_load_mid rfl _ _ rfl _ _ rfl _ _ r5 Tryz.underlying40 rfl hsr.out ?_)
      | fail)
    rw [← H5.out.1]
    refine HPl.out.mono ?_
    rintro e w6 ⟨rfl, hb6⟩
    have hu6 : Upd (fun _ => False) w5 w6 := Upd.of_below hb6
    obtain ⟨w7, hw7⟩ : ∃ w7, w7 = w6.alloc (.cells V.toArray 43) := ⟨_, rfl⟩
    have hu7 : Upd (fun _ => False) w6 w7 := by rw [hw7]; exact (Upd.refl _ w6).alloc _
    have u57 := hu6.trans hu7
    have g7 := u57.blockv H5.out.2.2.1
    have r7 := u57.range H5.out.2.2.2.1 (fun h => h)
    have v7 : w7.rangeAt w6.heap.size 0 V := by rw [hw7]; exact range_of_block (heap_alloc_last w6 _ rfl)
    have b7 := ((H.out.2.2.1.new H1.out.2.1).keep H5.out.2.2.2.2 (fun j h h' => H.out.2.2.2.1 j h h'.1)).new u57
    have d7 := H5.out.2.1.new u57
    have hM := amatch d7 b7 n.id n.bl n.sl n.jo n.pa n.lo n.ba
    rw [show superC n.id n.bl n.sl n.jo n.pa n.lo n.ba = rs from HK.out.1.symm, ← HV.out.2.2.2] at hM
    obtain ⟨mc, hmc⟩ : ∃ mc, mc = matchC F G (sizeN n.sl n.jo n.pa n.lo) n.bl := ⟨_, rfl⟩
    rw [← hmc] at hM
    replace hM := Lib.hid hM
    have tA2 := there_of_block (n := 7) g7 (by rw [HZZ.out.2.2.1]; exact Nat.le_refl _)
    have H7 := Lib.hid (And.intro hw7 (And.intro u57 (And.intro g7 (And.intro d7 (And.intro hmc (show w5.heap.size ≤ w6.heap.size from hu6.size))))))
    have hV7 := HV.out.2.2.1
    rw [hw7] at r7 v7 tA2
    clear hb6 hu6 hu7 u57 g7 d7 b7 hw7 hmc tA tA7 r5
    go_wp2_with (first
      | (refine wpList_store_new rfl _ _ _ rfl _ _ V rfl rfl (by rw [hV7]; rfl) HV.out.1 HV.out.2.1 ?_)
      | (refine wpList_load_mid rfl _ _ rfl _ _ rfl _ _ r7 Tryz.underlying40 rfl hsr.out ?_)
      | (refine wpList_load_mid rfl _ _ rfl _ _ rfl _ _ v7 Tryz.underlying43 rfl HV.out.1 ?_)
      | fail)
    rw [← H7.out.1]
    refine hM.out.mono ?_
    rintro e w8 ⟨rfl, hu8⟩
    have g8 := hu8.blockv H7.out.2.2.1
    have t8 := there_of_block (n := 7) g8 (by rw [HZZ.out.2.2.1]; exact Nat.le_refl _)
    have r8 : w8.rangeAt w4.heap.size 0 rs := by
      have := (H7.out.2.1.trans hu8).range H5.out.2.2.2.1 (fun h => h)
      exact this
    have HE8 : Hid (∀ W', Upd (fun j => j = w.heap.size) w8 W' → Dv S W' b F O [] ∧ Upd S w W') := fun W' hu => HE.out W' ((((H7.out.2.1.trans hu8).mono (fun _ _ h => h.elim))).trans hu) |>.imp (fun h => h) (fun h => h)
    clear hu8 g8 r7 v7 tA2 hM
    by_cases hc : F.length = n.size ∧ G.length = n.bl
    · have e0 : mc = 0 := by rw [H7.out.2.2.2.2.1]; exact if_pos hc
      have e2 : R = (n.C, 0) := by rw [HK.out.2, if_pos hc]
      have HX := Lib.hid e2
      have t8r : w8.there w.heap.size 0 rs.toArray.size := by rw [show rs.toArray.size = 7 by simpa using hrs.out.1]; exact t8
      have t8l : w8.there w.heap.size 0 rs.length := by rw [hrs.out.1]; exact t8
      have hs2 : Hid ((Tryz.prog.info? 40).map (·.size) = some rs.toArray.size) := by show _ = _; rw [show rs.toArray.size = 7 by simpa using hrs.out.1]; exact infoThS
      subst e0
      clear e2 hc
      go_wp2_with (first
        | (refine wpList_load_mid rfl _ _ rfl _ _ rfl _ _ r8 Tryz.underlying40 rfl hsr.out ?_)
        | (refine wpList_store_mid rfl _ _ _ rfl _ _ rs.toArray rfl rfl t8r hs2.out (all_oneCell_toArray hrs.out.2) ?_)
        | fail)
      rw [HX.out]
      refine bodyPost_ret (results_mid2 rfl _ _ w.heap.size 0 rs _ rfl (World.rangeAt_setCells_same _ _ _ _ t8l) Tryz.underlying40 rfl hsr.out) rfl ?_
      have h := HE8.out _ (upd_row w8 w.heap.size 0 rs)
      exact ⟨by rw [HK.out.1]; rfl, h.1, h.2⟩
    · have e0 : mc = 22 := by rw [H7.out.2.2.2.2.1]; exact if_neg hc
      have e2 : R = (zeroS, 22) := by rw [HK.out.2, if_neg hc]
      have HX := Lib.hid e2
      have t8z : w8.there w.heap.size 0 Z.toArray.size := by rw [HZZ.out.2.2.1]; exact t8
      subst e0
      clear e2 hc
      go_wp2_with (first
        | (refine wpList_build0 rfl _ rfl hbu ?_)
        | (refine wpList_store_mid rfl _ _ _ rfl _ _ Z.toArray rfl rfl t8z HZZ.out.2.2.2.1 HZZ.out.2.2.2.2.1 ?_)
        | fail)
      rw [HX.out]
      refine bodyPost_ret (results_mid2 rfl _ _ w.heap.size 0 Z _ rfl (World.rangeAt_setCells_same _ _ _ _ (by rw [HZZ.out.2.1]; exact t8)) Tryz.underlying40 rfl HZZ.out.2.2.2.2.2.1) rfl ?_
      have h := HE8.out _ (upd_row w8 w.heap.size 0 Z)
      exact ⟨by rw [HZZ.out.1]; rfl, h.1, h.2⟩
end Go.Proofs.YtfhfbpmlnjdfoaaGreatDoor
