/- The intent that a sector is. The intent that a sector is: GetCert. A certificate's sector is that certificate. The log of certificates: its kind of things. -/
import Derived.Test.YtnadilfobmgebaaGreatDoorG35
import Derived.Test.YtnadilfobmgebaaGreatDoorG13
import Derived.Test.YtnadilfobmgebaaGreatDoorG33
import Derived.Test.YtnadilfobmgebaaGreatDoorG29
namespace Go.Proofs.YtnadilfobmgebaaGreatDoor
open Go Go.RowKit
theorem zT_one : ([Value.int .i64 0, .int .i64 0, .int .i64 0, .int .i64 0, .int .i64 0, .int .i64 0].toArray).all (·.oneCell') = true := by simp [Value.oneCell']
set_option maxRecDepth 100000 in
set_option maxHeartbeats 2000000 in
theorem getT_any {w : World} (b : Bk) (hb : b.length = 64) (k : Nat) (ss : List Nat) (hss : (∀ s ∈ ss, 1 ≤ s ∧ s ≤ 7) ∧ ss.sum ≤ 59) (m : Nat) (hm : ss.length = m) (hm2 : m ≤ 100) (gs cl : Nat) (fm fb : Nat) (cm cb : Array Value) (tv : Value) (mb : Bool) (ds : List Value)
    (hds : (Tryz.prog.info? 54).map (·.size) = some ds.length) (hd1 : ∀ v ∈ ds, v.oneCell' = true) (hs : w.rangeAt gs 0 (ints (natsI ss))) (hN : Nib w)
    (entM : ∀ args w, (callFunc fm args).run Tryz.prog w = .ok (.enter fm args) w) (entB : ∀ args w, (callFunc fb args).run Tryz.prog w = .ok (.enter fb args) w)
    (hmay : ∀ W gl c, Below w.heap.size w W → W.rangeAt gl 0 (ints (natsI (numsAt b 1 ss))) → Calls Tryz.prog fm (#[.slice (some ⟨gl, 0, none⟩) m c] ++ cm) W fun e W' => e = .returned (.bool mb) ∧ Below W.heap.size W W')
    (hbuild : okGet b k ss mb = true → ∀ W gl c, Below w.heap.size w W → W.rangeAt gl 0 (ints (natsI (numsAt b 1 ss))) → Calls Tryz.prog fb (#[.slice (some ⟨gl, 0, none⟩) m c] ++ cb) W fun e W' => e = .returned (.agg ds.toArray) ∧ Below W.heap.size W W') :
    Calls Tryz.prog 162 #[.agg #[.int .i64 (k : Int), .slice (some ⟨gs, 0, none⟩) m cl, tv, .func (.func fm) #[] cm, .func (.func fb) #[] cb], .agg (bkC b).toArray] w
      (GetPost w (okGet b k ss mb) ds [Value.int .i64 0, .int .i64 0, .int .i64 0, .int .i64 0, .int .i64 0, .int .i64 0] (cdGet b k ss mb)) := by
  have H := Lib.hid (And.intro hs (And.intro hN (And.intro hmay (And.intro hbuild (And.intro hss hm)))))
  have HC := Lib.hid (And.intro hds (And.intro hd1 hb))
  clear hs hN hmay hbuild hss hm hds hd1 hb
  have hr : ((w.alloc (.cells #[.int .i64 (k : Int), .slice (some ⟨gs, 0, none⟩) m cl, tv, .func (.func fm) #[] cm, .func (.func fb) #[] cb] 251)).alloc (.cells (bkC b).toArray 23)).rangeAt (w.heap.size + 1) 0 (bkC b) := range_of_block (heap_alloc_last _ _ (by simp))
  go_enter Tryz.func162, Tryz.ntmps162
  go_wp2_with (first
    | (refine wpList_load_mid rfl _ _ rfl _ _ rfl _ _ (World.rangeAt_alloc (World.rangeAt_alloc hr _) _) Tryz.underlying23 rfl (sizeBk _ HC.out.2.2) ?_)
    | fail)
  show Calls _ _ _ ((((w.alloc (.cells #[.int .i64 (k : Int), .slice (some ⟨gs, 0, none⟩) m cl, tv, .func (.func fm) #[] cm, .func (.func fb) #[] cb] 251)).alloc (.cells (bkC b).toArray 23)).alloc (.cells [Value.int .i64 0, .int .i64 0, .int .i64 0, .int .i64 0, .int .i64 0, .int .i64 0].toArray 54)).alloc (.cells [Value.int .i64 0, .int .i64 0, .int .i64 0, .int .i64 0, .int .i64 0, .int .i64 0].toArray 54)) _
  obtain ⟨Z, hZ⟩ : ∃ Z : List Value, Z = [Value.int .i64 0, .int .i64 0, .int .i64 0, .int .i64 0, .int .i64 0, .int .i64 0] := ⟨_, rfl⟩
  rw [← hZ]
  have hZs : Hid (Z.toArray.size = 6) := by show _ = _; rw [hZ]; rfl
  have hZl : Hid (Z.length = 6) := by show _ = _; rw [hZ]; rfl
  have hsZ : Hid ((Tryz.prog.info? 54).map (·.size) = some Z.length) := by show _ = _; rw [hZ]; exact infoTc
  have hsA : Hid ((Tryz.prog.info? 54).map (·.size) = some Z.toArray.size) := by show _ = _; rw [hZ]; exact infoTc
  have hZ1 : Hid ((Z.toArray).all (·.oneCell') = true) := by show _ = _; rw [hZ]; exact zT_one
  have HZ := Lib.hid hZ
  clear hZ
  obtain ⟨h1, h2, h3, h4, h5, h6⟩ := four_new w (.cells #[.int .i64 (k : Int), .slice (some ⟨gs, 0, none⟩) m cl, tv, .func (.func fm) #[] cm, .func (.func fb) #[] cb] 251) (.cells (bkC b).toArray 23) (.cells Z.toArray 54) (.cells Z.toArray 54)
  clear hr
  generalize (((w.alloc (.cells #[.int .i64 (k : Int), .slice (some ⟨gs, 0, none⟩) m cl, tv, .func (.func fm) #[] cm, .func (.func fb) #[] cb] 251)).alloc (.cells (bkC b).toArray 23)).alloc (.cells Z.toArray 54)).alloc (.cells Z.toArray 54) = w4 at *
  refine (sealed_any b HC.out.2.2 (H.out.2.1.keep h6 (fun h => h))).mono ?_
  rintro e w5 ⟨rfl, hb5⟩
  have hu5 : Upd (fun _ => False) w4 w5 := Upd.of_below hb5
  have g1 := (hu5.block _ (lt_of_block h1) (fun h => h)).trans h1
  have g2 := (hu5.block _ (lt_of_block h2) (fun h => h)).trans h2
  have g3 := (hu5.block _ (lt_of_block h3) (fun h => h)).trans h3
  have g4 := (hu5.block _ (lt_of_block h4) (fun h => h)).trans h4
  have hz5 := hu5.size
  have H5 := Lib.hid (And.intro g1 (And.intro g2 (And.intro g3 (And.intro g4 (And.intro (h6.trans hu5) (And.intro h5 hz5))))))
  clear h1 h2 h3 h4 h5 h6 g1 g2 g3 g4 hu5 hb5 hz5
  by_cases hsl : sealB b = b
  · have hsc : sealedC b = 0 := if_pos hsl
    rw [hsc]
    clear hsc
    have HS := Lib.hid hsl
    clear hsl
    obtain ⟨g1, g2, g3, g4, u5, z4, z5⟩ := H5.out
    have r5 := range_of_block g2
    clear g1 g2 g3 g4 u5
    go_wp2_with (first
      | (refine wpList_load_mid rfl _ _ rfl _ _ rfl _ _ r5 Tryz.underlying23 rfl (sizeBk _ HC.out.2.2) ?_)
      | fail)
    refine (rread b HC.out.2.2).mono ?_
    rintro e w6 ⟨g, rfl, hR6, hge, hb6⟩
    have HX := Lib.hid (And.intro hR6 hb6)
    clear hR6 hb6
    go_wp2_with fail
    refine (rtake HX.out.1 1 (by decide) (by decide) (by decide)).mono ?_
    rintro e w7 ⟨rfl, hR7, hU7⟩
    obtain ⟨kb, hkb⟩ : ∃ kb, kb = numB ((b.drop 0).take 1) := ⟨_, rfl⟩
    rw [← hkb]
    have HK := Lib.hid hkb
    clear hkb
    obtain ⟨g1, g2, g3, g4, u5, z4, z5⟩ := H5.out
    obtain ⟨hs, hN, -, -, hss, hm⟩ := H.out
    have u57 : Upd (fun j => j = g) w5 w7 := ((Upd.of_below (S := fun _ => False) HX.out.2).mono (fun _ _ h => h.elim)).trans hU7
    have u7 : Upd (fun j => j = g) w w7 := (u5.mono (fun _ _ h => h.elim)).trans u57
    have hM7 : w.heap.size + 4 ≤ w7.heap.size := by have := u57.size; omega
    have gM : w.heap.size + 4 ≤ g := by omega
    have m1 : w7.cell? ⟨w.heap.size, 1, none⟩ = some (.slice (some ⟨gs, 0, none⟩) m cl) := u57.cellv (cell_of_block g1 1) (by omega)
    have a1 := (u57.block _ (lt_of_block g1) (by omega)).trans g1
    have a3 := (u57.block _ (lt_of_block g3) (by omega)).trans g3
    have a4 := (u57.block _ (lt_of_block g4) (by omega)).trans g4
    have gslt : gs < w.heap.size ∨ m = 0 := by
      rcases Nat.eq_zero_or_pos m with h | h
      · exact .inr h
      · exact .inl (World.block_lt_of_cell? w _ (hs 0 _ (natsI_get (by omega))))
    have hs7 : ∀ i (hi : i < ss.length), w7.cell? ⟨gs, i, none⟩ = some (.int .i64 (ss[i] : Int)) := fun i hi => by
      have := u7.cellv (hs i _ (natsI_get hi)) (by omega)
      rwa [Nat.zero_add] at this
    have hua : Upd (fun _ => False) w7 (w7.alloc (.cells (ints (List.replicate m 0)).toArray 3)) := (Upd.refl _ _).alloc _
    have hgL := heap_alloc_last w7 (.cells (ints (List.replicate m 0)).toArray 3) rfl
    have hmk := makeInts m (by omega) w7
    have hR8 := hR7.keep hua (fun h => h)
    have hglt := hR7.lt
    have m18 : (w7.alloc (.cells (ints (List.replicate m 0)).toArray 3)).cell? ⟨w.heap.size, 1, none⟩ = some (.slice (some ⟨gs, 0, none⟩) m cl) := hua.cellv m1 (fun h => h)
    have H8 := Lib.hid (And.intro hua (And.intro hgL (And.intro hR8 (And.intro a1 (And.intro a3 (And.intro a4 (And.intro hs7 (And.intro gslt (And.intro u7 (And.intro hss (And.intro hm hN)))))))))))
    clear g1 g2 g3 g4 u5 z4 hs hN hss hm u57 u7 a1 a3 a4 gslt hs7 hua hgL hR8 hU7 hR7 r5 z5
    go_wp2
    clear hmk m1
    generalize hW8 : w7.alloc (.cells (ints (List.replicate m 0)).toArray 3) = w8 at *
    have HW8 := Lib.hid hW8
    clear hW8
    generalize hL : w7.heap.size = L at *
    have HL := Lib.hid hL
    clear hL
    go_loopw [30] (fun s30 wr => ∃ i : Nat, i ≤ m ∧ s30 = .int .i64 i ∧ RdAt wr g b (1 + (ss.take i).sum) ∧ wr.heap[L]? = some (.cells (ints (fillI (numsAt b 1 ss) i)).toArray 3 (0, 0)) ∧ Upd (fun j => j = g ∨ j = L) w8 wr) (fun s30 _ => m - (intOf s30).toNat)
    case atStart => exact ⟨0, Nat.zero_le _, rfl, by simpa using H8.out.2.2.1, by rw [H8.out.2.1]; simp [fillI, natsI, numsAt_len, H8.out.2.2.2.2.2.2.2.2.2.2.1], Upd.refl _ _⟩
    case round =>
      obtain ⟨i, hi, rfl, hR, hL, hu⟩ := hrel
      obtain ⟨hua, hgL, hR8, a1, a3, a4, hs7, gslt, u7, hss, hm, hN⟩ := H8.out
      by_cases hlt : i < m
      · have hil : i < ss.length := by omega
        have x1 : wr.cell? ⟨gs, i, none⟩ = some (.int .i64 (ss[i] : Int)) := hu.cellv (hua.cellv (hs7 i hil) (fun h => h)) (by omega)
        have hsi := hss.1 ss[i] (List.getElem_mem hil)
        obtain ⟨t1, t2⟩ := sum_take ss hil
        have hng : ¬ L = g := by omega
        have hcx : ∃ v, wr.cell? ⟨L, i, none⟩ = some v := by
          rw [cell_of_block hL]
          exact ⟨_, Array.getElem?_eq_getElem (by rw [List.size_toArray, length_ints, fillI_len _ (by rw [numsAt_len]; omega), numsAt_len]; omega)⟩
        have hnx : Hid ((ints (fillI (numsAt b 1 ss) i)).toArray.setIfInBounds i (.int .i64 ((numB ((b.drop (1 + (ss.take i).sum)).take ss[i]) : Nat) : Int)) = (ints (fillI (numsAt b 1 ss) (i + 1))).toArray) := by
          show _ = _
          rw [List.setIfInBounds_toArray, ints_set, ← numsAt_get b 1 ss i hil, fillI_set _ (by rw [numsAt_len]; exact hil)]
        have hsum : Hid (1 + (ss.take (i + 1)).sum = 1 + (ss.take i).sum + ss[i]) := by show _ = _; omega
        have b1 : (0 : Int) ≤ (i : Int) ∧ (i : Int) < (m : Int) := by omega
        have hbd : 1 + (ss.take i).sum + ss[i] ≤ 60 := by omega
        have HX2 := Lib.hid (And.intro hR (And.intro hL (And.intro hu (And.intro hsi (And.intro hbd hcx)))))
        clear hua hgL hR8 a1 a3 a4 hs7 gslt u7 hss hm hN t1 t2 hR hL hu hcx hbd hsi
        obtain ⟨b1, b2⟩ := b1
        generalize ss[i] = si at *
        go_wp2_with fail
        refine (rtake HX2.out.1 si HX2.out.2.2.2.1.1 HX2.out.2.2.2.1.2 HX2.out.2.2.2.2.1).mono ?_
        rintro e w9 ⟨rfl, hR9, hU9⟩
        have hL9 := (hU9.block L (lt_of_block HX2.out.2.1) hng).trans HX2.out.2.1
        obtain ⟨v0, hv0⟩ := HX2.out.2.2.2.2.2
        have c9 := hU9.cellv hv0 hng
        have z9 := frozen_of_block hL9 i
        have hL10 := heap_setCell_same hL9 i (.int .i64 ((numB ((b.drop (1 + (ss.take i).sum)).take si) : Nat) : Int))
        rw [hnx.out] at hL10
        have hR10 := hR9.keep (upd_setCell w9 L i (.int .i64 ((numB ((b.drop (1 + (ss.take i).sum)).take si) : Nat) : Int))) (fun e => hng e.symm)
        rw [← hsum.out] at hR10
        have hU10 : Upd (fun j => j = g ∨ j = L) w8 (w9.setCell ⟨L, i, none⟩ (.int .i64 ((numB ((b.drop (1 + (ss.take i).sum)).take si) : Nat) : Int))) :=
          HX2.out.2.2.1.trans ((hU9.mono (fun _ _ h => .inl h)).trans ((upd_setCell _ _ _ _).mono (fun _ _ h => .inr h)))
        have HZ := Lib.hid (And.intro hR10 (And.intro hL10 hU10))
        clear hL9 hv0 hL10 hR10 hU10 hU9 hR9
        go_wp2
        go_roundw
        case rel => exact ⟨i + 1, by omega, by go_num, HZ.out.1, HZ.out.2.1, HZ.out.2.2⟩
        case measure => simp [intOf]; omega
      · obtain rfl : i = m := by omega
        rw [List.take_of_length_le (by omega)] at hR
        have hl5 : i = (numsAt b 1 ss).length := by rw [numsAt_len]; omega
        rw [show fillI (numsAt b 1 ss) i = natsI (numsAt b 1 ss) by rw [hl5]; exact fillI_all _] at hL
        clear hl5
        have u8r : Upd (fun j => j = g ∨ j = L) w7 wr := (hua.mono (fun _ _ h => h.elim)).trans hu
        have hLw : w.heap.size + 4 ≤ L := hM7
        have hlw : Below w.heap.size w wr := by
          refine below_upd (below_upd (Below.refl _ w) u7 (Nat.le_refl _) (fun k e => by omega)) u8r (Nat.le_refl _) (fun k e => by omega)
        have e1 := (u8r.block _ (lt_of_block a1) (by omega)).trans a1
        have e3 := (u8r.block _ (lt_of_block a3) (by omega)).trans a3
        have e4 := (u8r.block _ (lt_of_block a4) (by omega)).trans a4
        have hErr : ∀ W, Below wr.heap.size wr W → W.rangeAt (w.heap.size + 1 + 1 + 1) 0 Z ∧ W.there (w.heap.size + 1 + 1) 0 6 ∧ Below w.heap.size w W := fun W hW => by
          have f3 := (hW.block _ (lt_of_block e3)).trans e3
          refine ⟨range_of_block ((hW.block _ (lt_of_block e4)).trans e4), fun j hj => ?_, hlw.trans (hW.mono hlw.size)⟩
          rw [cell_of_block f3, frozen_of_block f3]
          exact ⟨by rw [Nat.zero_add, Array.getElem?_eq_getElem (by have := hZl.out; simp; omega)]; rfl, rfl⟩
        have m0 : wr.cell? ⟨w.heap.size, 0, none⟩ = some (.int .i64 (k : Int)) := cell_of_block e1 0
        have m3 : wr.cell? ⟨w.heap.size, 3, none⟩ = some (.func (.func fm) #[] cm) := cell_of_block e1 3
        have m4 : wr.cell? ⟨w.heap.size, 4, none⟩ = some (.func (.func fb) #[] cb) := cell_of_block e1 4
        have HE := Lib.hid (And.intro hErr (And.intro m3 (And.intro m4 (And.intro hR (And.intro (range_of_block hL) hlw)))))
        obtain ⟨rz, tz, hbz⟩ := hErr wr (Below.refl _ _)
        clear hua hgL hR8 a1 a3 a4 hs7 gslt u7 hss hm hN hR hL hu u8r hlw e1 e3 e4 hErr m3 m4
        by_cases hkk : kb = k
        · have hq : ((kb : Int) == (k : Int)) = true := by rw [hkk]; simp
          have hq2 : ((kb : Int) != (k : Int)) = false := by rw [hkk]; simp
          have HKK := Lib.hid hkk
          clear hkk rz tz hbz
          go_wp2_with fail
          refine (rend HE.out.2.2.2.1).mono ?_
          rintro e w10 ⟨rfl, hb10⟩
          obtain ⟨rz, tz, hbz⟩ := HE.out.1 w10 hb10
          have m3 := (Upd.of_below (S := fun _ => False) hb10).cellv HE.out.2.1 (fun h => h)
          have m4 := (Upd.of_below (S := fun _ => False) hb10).cellv HE.out.2.2.1 (fun h => h)
          have rL := Below.range hb10 HE.out.2.2.2.2.1
          have H10 := Lib.hid (And.intro hb10 (And.intro rL m4))
          clear rL m4 hb10
          have HBz := Lib.hid hbz
          clear hbz
          by_cases hen : endB b (1 + ss.sum) = true
          · have he0 : endC b (1 + ss.sum) = 0 := if_pos hen
            rw [he0]
            clear he0 rz tz
            have HEN := Lib.hid hen
            clear hen
            go_wp2_with fail
            refine (H.out.2.2.1 w10 L i HBz.out H10.out.2.1).mono ?_
            rintro e w11 ⟨rfl, hb11⟩
            obtain ⟨rz, tz, hbz11⟩ := HE.out.1 w11 (H10.out.1.trans (hb11.mono H10.out.1.size))
            have m4 := (Upd.of_below (S := fun _ => False) hb11).cellv H10.out.2.2 (fun h => h)
            have rL := Below.range hb11 H10.out.2.1
            have HBz11 := Lib.hid hbz11
            have HRL := Lib.hid rL
            have HBz11b := Lib.hid hb11
            clear rL hbz11 hb11
            cases mb with
            | true =>
              have HR : Hid (okGet b k ss true = true) := by
                show _ = _
                simp only [okGet, HS.out, HEN.out, decide_true, Bool.true_and, Bool.and_true, decide_eq_true_eq]
                have := HK.out
                rw [List.drop_zero] at this
                rw [← this, HKK.out]
              clear rz tz
              go_wp2_with fail
              refine (H.out.2.2.2.1 HR.out w11 L i HBz11.out HRL.out).mono ?_
              rintro e w12 ⟨rfl, hb12⟩
              obtain ⟨-, tz, hbz12⟩ := HE.out.1 w12 ((H10.out.1.trans ((HBz11b.out).mono H10.out.1.size)).trans (hb12.mono (by have := H10.out.1.size; have := HBz11b.out.size; omega)))
              have hdl : ds.length = 6 := by have h1 := HC.out.1; rw [infoTc] at h1; injection h1 with h1; exact h1.symm
              have hst : w12.there (w.heap.size + 1 + 1) 0 ds.toArray.size := by rw [show ds.toArray.size = 6 by simpa using hdl]; exact tz
              have hst2 : w12.there (w.heap.size + 1 + 1) 0 ds.length := by rw [hdl]; exact tz
              have hsz2 : (Tryz.prog.info? 54).map (·.size) = some ds.toArray.size := by rw [show ds.toArray.size = 6 by simpa using hdl]; exact infoTc
              have HST := Lib.hid (And.intro hst (And.intro hsz2 (And.intro hst2 hbz12)))
              clear hst hsz2 hst2 hdl hbz12 tz hb12
              go_wp2_with (first
                | (refine wpList_store_mid rfl _ _ _ rfl _ _ ds.toArray rfl rfl HST.out.1 HST.out.2.1 (all_oneCell_toArray HC.out.2.1) ?_)
                | fail)
              exact bodyPost_ret (results_mid2 rfl _ _ (w.heap.size + 1 + 1) 0 ds _ rfl (World.rangeAt_setCells_same _ _ _ _ HST.out.2.2.1) Tryz.underlying54 rfl HC.out.1) rfl
                ⟨⟨ds, fun _ => rfl, fun h => (by rw [HR.out] at h; cases h), by rw [show cdGet b k ss true = 0 from if_pos HR.out]; rfl⟩, below_upd HST.out.2.2.2 (upd_row _ (w.heap.size + 1 + 1) 0 _) (Nat.le_refl _) (fun k e => by omega)⟩
            | false =>
              have HR : Hid (okGet b k ss false = false) := by show _ = _; simp [okGet]
              go_wp2_with (first
                | (refine wpList_load_mid rfl _ _ rfl _ _ rfl _ _ rz Tryz.underlying54 rfl hsZ.out ?_)
                | (refine wpList_store_mid rfl _ _ _ rfl _ _ Z.toArray rfl rfl (by rw [hZs.out]; exact tz) hsA.out hZ1.out ?_)
                | fail)
              exact bodyPost_ret (results_mid2 rfl _ _ (w.heap.size + 1 + 1) 0 Z _ rfl (World.rangeAt_setCells_same _ _ _ _ (by first | (rw [hZs.out]; exact tz) | (rw [hZl.out]; exact tz))) Tryz.underlying54 rfl hsZ.out) rfl
                ⟨⟨_, fun h => (by rw [HR.out] at h; cases h), fun _ => rfl, by rw [okGet_no HS.out HR.out, HZ.out]; rfl⟩, below_upd HBz11.out (upd_row _ (w.heap.size + 1 + 1) 0 _) (Nat.le_refl _) (fun k e => by omega)⟩
          · have he0 : endC b (1 + ss.sum) = 12 := if_neg hen
            rw [he0]
            clear he0
            have HR : Hid (okGet b k ss mb = false) := by show _ = _; simp [okGet, hen]
            clear hen
            go_wp2_with (first
              | (refine wpList_load_mid rfl _ _ rfl _ _ rfl _ _ rz Tryz.underlying54 rfl hsZ.out ?_)
              | (refine wpList_store_mid rfl _ _ _ rfl _ _ Z.toArray rfl rfl (by rw [hZs.out]; exact tz) hsA.out hZ1.out ?_)
              | fail)
            exact bodyPost_ret (results_mid2 rfl _ _ (w.heap.size + 1 + 1) 0 Z _ rfl (World.rangeAt_setCells_same _ _ _ _ (by first | (rw [hZs.out]; exact tz) | (rw [hZl.out]; exact tz))) Tryz.underlying54 rfl hsZ.out) rfl
              ⟨⟨_, fun h => (by rw [HR.out] at h; cases h), fun _ => rfl, by rw [okGet_no HS.out HR.out, HZ.out]; rfl⟩, below_upd HBz.out (upd_row _ (w.heap.size + 1 + 1) 0 _) (Nat.le_refl _) (fun k e => by omega)⟩
        · have hq : ((kb : Int) == (k : Int)) = false := by rw [beq_eq_false_iff_ne]; omega
          have hq2 : ((kb : Int) != (k : Int)) = true := by rw [bne_iff_ne]; omega
          have HR : Hid (okGet b k ss mb = false) := by
            show _ = _
            have := HK.out
            rw [List.drop_zero] at this
            simp [okGet, ← this, hkk]
          have HBz := Lib.hid hbz
          clear hkk hbz
          go_wp2_with (first
            | (refine wpList_load_mid rfl _ _ rfl _ _ rfl _ _ rz Tryz.underlying54 rfl hsZ.out ?_)
            | (refine wpList_store_mid rfl _ _ _ rfl _ _ Z.toArray rfl rfl (by rw [hZs.out]; exact tz) hsA.out hZ1.out ?_)
            | fail)
          exact bodyPost_ret (results_mid2 rfl _ _ (w.heap.size + 1 + 1) 0 Z _ rfl (World.rangeAt_setCells_same _ _ _ _ (by first | (rw [hZs.out]; exact tz) | (rw [hZl.out]; exact tz))) Tryz.underlying54 rfl hsZ.out) rfl
            ⟨⟨_, fun h => (by rw [HR.out] at h; cases h), fun _ => rfl, by rw [okGet_no HS.out HR.out, HZ.out]; rfl⟩, below_upd HBz.out (upd_row _ (w.heap.size + 1 + 1) 0 _) (Nat.le_refl _) (fun k e => by omega)⟩
  · have hsc : sealedC b = 13 := if_neg hsl
    have hres := okGet_seal (k := k) (ss := ss) (mb := mb) hsl
    rw [hsc]
    have HR := Lib.hid hres
    clear hsc hsl hres
    obtain ⟨g1, g2, g3, g4, u5, z4, z5⟩ := H5.out
    have r4 := range_of_block g4
    have hth : w5.there (w.heap.size + 1 + 1) 0 6 := fun j hj => by
      rw [cell_of_block g3, frozen_of_block g3]
      exact ⟨by rw [Nat.zero_add, Array.getElem?_eq_getElem (by have := hZl.out; simp; omega)]; rfl, rfl⟩
    have HU := Lib.hid u5
    clear g1 g2 g3 g4 u5 z4 z5
    go_wp2_with (first
      | (refine wpList_load_mid rfl _ _ rfl _ _ rfl _ _ r4 Tryz.underlying54 rfl hsZ.out ?_)
      | (refine wpList_store_mid rfl _ _ _ rfl _ _ Z.toArray rfl rfl (by rw [hZs.out]; exact hth) hsA.out hZ1.out ?_)
      | fail)
    refine bodyPost_ret (results_mid2 rfl _ _ (w.heap.size + 1 + 1) 0 Z _ rfl (World.rangeAt_setCells_same _ _ _ _ (by first | (rw [hZs.out]; exact hth) | (rw [hZl.out]; exact hth))) Tryz.underlying54 rfl hsZ.out) rfl
      ⟨⟨_, fun h => (by rw [HR.out.1] at h; cases h), fun _ => rfl, by rw [HR.out.2, HZ.out]; rfl⟩, below_upd (Upd.below HU.out) (upd_row w5 (w.heap.size + 1 + 1) 0 _) (Nat.le_refl _) (fun k e => by omega)⟩
def numsT (b : Bk) : List Nat := numsAt b 1 [6, 6, 2, 2, 3, 3]
def okT (b : Bk) : Bool := okGet b 5 [6, 6, 2, 2, 3, 3] (mayT (natsI (numsT b)))
def cdT (b : Bk) : Int := cdGet b 5 [6, 6, 2, 2, 3, 3] (mayT (natsI (numsT b)))
def GetTPost (w : World) (b : Bk) : Ending → World → Prop := GetPost w (okT b) (ints (natsI (numsT b))) [Value.int .i64 0, .int .i64 0, .int .i64 0, .int .i64 0, .int .i64 0, .int .i64 0] (cdT b)
set_option maxRecDepth 100000 in
theorem getT_form {w : World} {gs gt : Nat} (hF : FormT w gs gt) (hN : Nib w) (b : Bk) (hb : b.length = 64) :
    Calls Tryz.prog 162 #[formTV gs gt, .agg (bkC b).toArray] w (GetTPost w b) := by
  obtain ⟨hs, v, hv, hB⟩ := hF
  refine getT_any (w := w) b hb 5 [6, 6, 2, 2, 3, 3] ⟨by simp, by decide⟩ 6 rfl (by decide) gs 6 201 202 #[.pointer (some ⟨gt, 0, none⟩)] #[] (.func (.func 200) #[] #[]) (mayT (natsI (numsT b))) (ints (natsI (numsT b)))
    (by rw [length_ints]; exact infoTc) (fun v hv => by simp only [ints, List.mem_map] at hv; obtain ⟨x, -, rfl⟩ := hv; rfl) hs hN (fun _ _ => rfl) (fun _ _ => rfl) ?_ ?_
  · intro W gl c hW hr
    exact mayT_any _ _ _ _ _ _ ((Upd.of_below (S := fun _ => False) hW).cellv hv (fun h => h)) (hB.below hW) hr
  · intro _ W gl c hW hr
    exact buildT _ _ _ _ _ _ hr
set_option maxRecDepth 100000 in
set_option maxHeartbeats 1000000 in
theorem GetT_any {w : World} (hN : Nib w) (b : Bk) (hb : b.length = 64) :
    Calls Tryz.prog 104 #[.agg (bkC b).toArray] w (GetTPost w b) := by
  have HN := Lib.hid hN
  have Hb := Lib.hid hb
  clear hN hb
  go_enter Tryz.func104, Tryz.ntmps104
  go_wp2_with fail
  change Code.wp _ _ _ _ ((w.alloc (.cells (bkC b).toArray 23)).alloc (.cells [Value.int .i64 0, .int .i64 0, .int .i64 0, .int .i64 0, .int .i64 0, .int .i64 0].toArray 54))
  have hr : ((w.alloc (.cells (bkC b).toArray 23)).alloc (.cells [Value.int .i64 0, .int .i64 0, .int .i64 0, .int .i64 0, .int .i64 0, .int .i64 0].toArray 54)).rangeAt w.heap.size 0 (bkC b) := World.rangeAt_alloc (range_of_block (heap_alloc_last w _ rfl)) _
  have hg : ((w.alloc (.cells (bkC b).toArray 23)).alloc (.cells [Value.int .i64 0, .int .i64 0, .int .i64 0, .int .i64 0, .int .i64 0, .int .i64 0].toArray 54)).heap[w.heap.size + 1]? = some (.cells [Value.int .i64 0, .int .i64 0, .int .i64 0, .int .i64 0, .int .i64 0, .int .i64 0].toArray 54) := heap_alloc_last _ _ (by simp)
  have hu : Upd (fun _ => False) w ((w.alloc (.cells (bkC b).toArray 23)).alloc (.cells [Value.int .i64 0, .int .i64 0, .int .i64 0, .int .i64 0, .int .i64 0, .int .i64 0].toArray 54)) := ((Upd.refl _ w).alloc _).alloc _
  generalize (w.alloc (.cells (bkC b).toArray 23)).alloc (.cells [Value.int .i64 0, .int .i64 0, .int .i64 0, .int .i64 0, .int .i64 0, .int .i64 0].toArray 54) = w2 at *
  have hb2 : Below w.heap.size w w2 := Upd.below hu
  refine wp_region_held_drew (S := fun W => W.rangeAt w.heap.size 0 (bkC b)) (by kernel_rfl) (by rw [World.rangeAt_drew]; exact hr) (fun hHeld => ?_)
  refine' wpAnyH_take (i := 1) rfl (by kernel_rfl) (by kernel_rfl) (by kernel_rfl) (fun _ _ _ h => h) (yieldsIf_load_mid (by rfl) _ _ rfl _ _ rfl _ _ (fun w h => h) Tryz.underlying23 rfl (sizeBk _ Hb.out)) hHeld _
  simp only [List.getElem_toArray, List.getElem_cons_succ, List.getElem_cons_zero, Act.put, List.setIfInBounds_toArray, List.set_cons_zero, List.set_cons_succ]
  refine wpAnyH_ready (rs := [0]) (by kernel_rfl) (by simp) ?_
  refine AllReadyH.cons rfl (fun K hK => ?_) AllReadyH.nil
  go_simp
  refine (certs_any _).mono ?_
  rintro e w3 ⟨gs, gt, rfl, hF, hb3⟩
  have hb3' : Below w2.heap.size w2 w3 := bundrew' hb3
  refine hK.out _ _ (Below.range hb3 hHeld) (fun hHeld2 => ?_)
  clear hK K
  refine wpAnyH_ready (rs := [2]) (by kernel_rfl) (by simp) ?_
  refine AllReadyH.cons rfl (fun K hK => ?_) AllReadyH.nil
  go_simp
  refine (getT_form hF ((HN.out.keep hu (fun h => h)).below hb3') b Hb.out).mono ?_
  rintro e w4 ⟨⟨rs, hr1, hr2, rfl⟩, hb4⟩
  have hb4' : Below w2.heap.size w2 w4 := hb3'.trans (hb4.mono hb3'.size)
  have hg4 := (hb4'.block _ (lt_of_block hg)).trans hg
  have hth : w4.there (w.heap.size + 1) 0 6 := fun j hj => by
    rw [cell_of_block hg4, frozen_of_block hg4]
    exact ⟨by rw [Nat.zero_add, Array.getElem?_eq_getElem (by simpa using hj)]; rfl, rfl⟩
  have hrl : rs.length = 6 ∧ ∀ v ∈ rs, v.oneCell' = true := by
    cases hk : okT b with
    | true => rw [hr1 hk]; exact ⟨by rw [length_ints]; rfl, fun v hv => by simp only [ints, List.mem_map] at hv; obtain ⟨x, -, rfl⟩ := hv; rfl⟩
    | false => rw [hr2 hk]; exact ⟨rfl, fun v hv => by simp at hv; subst hv; rfl⟩
  have hst : w4.there (w.heap.size + 1) 0 rs.toArray.size := by rw [show rs.toArray.size = 6 by simpa using hrl.1]; exact hth
  have hst2 : w4.there (w.heap.size + 1) 0 rs.length := by rw [hrl.1]; exact hth
  have hsz2 : (Tryz.prog.info? 54).map (·.size) = some rs.toArray.size := by rw [show rs.toArray.size = 6 by simpa using hrl.1]; exact infoTc
  have hsz3 : (Tryz.prog.info? 54).map (·.size) = some rs.length := by rw [hrl.1]; exact infoTc
  have hU5 : Below w.heap.size w (w4.setCells (w.heap.size + 1) 0 rs) := below_upd (hb2.trans (hb4'.mono hu.size)) (upd_row w4 (w.heap.size + 1) 0 _) (Nat.le_refl _) (fun k e => by omega)
  refine hK.out _ _ (Below.range hb4 hHeld2) (fun hHeld3 => ?_)
  clear hK K
  refine wpAnyH_take (i := 3) (v := ?_) rfl (by kernel_rfl) (by kernel_rfl) (by kernel_rfl) (fun _ _ _ h => h) (Or.inl ⟨by rfl, ?_⟩) hHeld3 ?_
  rotate_left
  · intro W hSw; (try dsimp only at hSw); (try go_split_ands); go_simp; (try with_reducible rfl)
  simp only [List.getElem_toArray, List.getElem_cons_succ, List.getElem_cons_zero, Act.put, List.setIfInBounds_toArray, List.set_cons_zero, List.set_cons_succ]
  refine wpAnyH_take (i := 4) (v := ?_) rfl (by kernel_rfl) (by kernel_rfl) (by kernel_rfl) (fun _ _ _ h => h) (Or.inl ⟨by rfl, ?_⟩) hHeld3 ?_
  rotate_left
  · intro W hSw; (try dsimp only at hSw); (try go_split_ands); go_simp; (try with_reducible rfl)
  simp only [List.getElem_toArray, List.getElem_cons_succ, List.getElem_cons_zero, Act.put, List.setIfInBounds_toArray, List.set_cons_zero, List.set_cons_succ]
  refine wpAnyH_ready (rs := [5]) (by kernel_rfl) (by simp) ?_
  refine AllReadyH.cons rfl (fun K hK => ?_) AllReadyH.nil
  rw [if_pos (by rfl)]
  refine wp_store_mid _ _ _ rfl _ _ (List.toArray _) rfl rfl (hst) (hsz2) (all_oneCell_toArray hrl.2) ?_
  simp only [Act.put, List.setIfInBounds_toArray]
  refine hK.out _ _ ((upd_row w4 (w.heap.size + 1) 0 rs).range hHeld3 (by omega)) (fun hHeld4 => ?_)
  clear hK K
  refine wpAnyH_ready (rs := [6]) (by kernel_rfl) (by simp) ?_
  refine AllReadyH.cons rfl (fun K hK => ?_) AllReadyH.nil
  go_simp
  refine hK.out _ _ (hHeld4) (fun _ => ?_)
  clear hK K
  refine wpAnyH_done (by kernel_rfl) ?_ _
  have HE := Lib.hid (And.intro hU5 (And.intro hst2 (And.intro hsz3 (And.intro hr1 hr2))))
  clear hst hst2 hsz2 hsz3 hU5 hth hg4 hb4 hb4' hb3 hb3' hHeld hHeld2 hHeld3 hHeld4 hF hr hg hu hb2 hr1 hr2 hrl
  go_wp2
  exact bodyPost_ret (results_mid2 rfl _ _ (w.heap.size + 1) 0 rs _ rfl (World.rangeAt_setCells_same _ _ _ _ HE.out.2.1) Tryz.underlying54 rfl HE.out.2.2.1) rfl ⟨⟨rs, HE.out.2.2.2.1, HE.out.2.2.2.2, rfl⟩, HE.out.1⟩
theorem cert_get {a b c d y1 z1 : Nat} (h : mayT [(a : Int), b, c, d, y1, z1] = true) : okT (certB a b c d y1 z1) = true ∧ numsT (certB a b c d y1 z1) = [a, b, c, d, y1, z1] := by
  obtain ⟨⟨⟨a1, a2⟩, b1, b2⟩, ⟨c1, c3, d1, d2, c2⟩, ⟨y2, y3⟩, z2, z3⟩ := mayT_iff.1 h
  have hf := cert_fits (a := a) (b := b) (c := c) (d := d) (y1 := y1) (z1 := z1) (by omega) (by omega) (by omega) (by omega) (by omega) (by omega)
  obtain ⟨h1, h2⟩ := sect_ok (k := 5) (by decide) hf (mayT (natsI (numsT (certB a b c d y1 z1))))
  have h3 : numsT (certB a b c d y1 z1) = [a, b, c, d, y1, z1] := h2
  refine ⟨?_, h3⟩
  unfold okT
  rw [show okGet (certB a b c d y1 z1) 5 [6, 6, 2, 2, 3, 3] (mayT (natsI (numsT (certB a b c d y1 z1)))) = mayT (natsI (numsT (certB a b c d y1 z1))) from h1, h3]
  exact h
theorem infoCe_len {xs : List Value} (h : (Tryz.prog.info? 54).map (·.size) = some xs.length) : ∃ a b c d e f, xs = [a, b, c, d, e, f] := by
  rw [infoCe] at h
  injection h with h
  match xs, h with
  | [a, b, c, d, e, f], _ => exact ⟨a, b, c, d, e, f, rfl⟩
set_option maxRecDepth 100000 in
theorem tellsOpen2 : TellsC 105 := by
  refine ⟨fun _ _ => rfl, fun W a xs hx hl => ?_⟩
  obtain ⟨x0, x1, x2, x3, x4, x5, rfl⟩ := infoCe_len hl
  simp at hx
  subst hx
  go_enter Tryz.func105, Tryz.ntmps105
  go_wp2
  go_ret
  exact ⟨rfl, (Below.refl _ _).alloc (Nat.le_refl _) _⟩
def kindC : Kind := ⟨okT, fun v => ints (natsI (numsT v)), cdT, fun v => ((numsT v).getD 0 0 : Nat)⟩
abbrev zsC : List Value := [Value.int .i64 0, .int .i64 0, .int .i64 0, .int .i64 0, .int .i64 0, .int .i64 0]
theorem kindC_ok : ∀ v : Bk, v.length = 64 → (kindC.ok v = true → kindC.cd v = 0) ∧ (kindC.ok v = false → kindC.cd v ≠ 0) ∧ (kindC.ds v).length = 6 ∧ (∀ u ∈ kindC.ds v, u.oneCell' = true) ∧ (kindC.ds v)[0]? = some (.int .i64 (kindC.nm v)) := by
  intro v _
  refine ⟨fun h => if_pos h, fun h => ?_, by simp [kindC, natsI, numsT, numsAt_len], fun u hu => by simp only [kindC, ints, List.mem_map] at hu; obtain ⟨x, -, rfl⟩ := hu; rfl, rfl⟩
  show cdT v ≠ 0
  have h' : okGet v 5 [6, 6, 2, 2, 3, 3] (mayT (natsI (numsT v))) = false := h
  unfold cdT cdGet
  rw [h']
  simp
  split <;> decide
theorem kindC_get : ∀ W v, v.length = 64 → Nib W → Calls Tryz.prog 104 #[.agg (bkC v).toArray] W (GetPost W (kindC.ok v) (kindC.ds v) zsC (kindC.cd v)) := fun _W v hv hN => GetT_any hN v hv
abbrev certC (a b c d e f : Int) : List Value := [.int .i64 a, .int .i64 b, .int .i64 c, .int .i64 d, .int .i64 e, .int .i64 f]
theorem putCt {S : Nat → Prop} {w : World} {l b base n fi : Nat} {F : List Bk} {O : List (Nat × Bk)} {P : List Int} (hl : LogC w l b base n fi) (hd : Dv S w b F O P) (hn : ∀ j, w.heap.size ≤ j → S j) (hSl : ¬ S l) (hN : Nib w)
    (hSN : ¬ S 0) (hfi : TellsC fi) (hbn : base + n ≤ F.length) (hO : O.length < 65000) (x1 x2 x3 x4 x5 x6 : Int) :
    Calls Tryz.prog 24 #[.pointer (some ⟨l, 0, none⟩), .agg (certC x1 x2 x3 x4 x5 x6).toArray] w (Out S w b (logPutR (mayT [x1, x2, x3, x4, x5, x6]) base n x1 (certB x1.toNat x2.toNat x3.toNat x4.toNat x5.toNat x6.toNat) F O P)) :=
  putC_log hl hd hn hSl hN hSN hfi hbn hO (certC x1 x2 x3 x4 x5 x6) x1 rfl infoCe _ _ (sectB_len (by show 22 ≤ 59; decide)) (fun W hW => (PutT_any hW x1 x2 x3 x4 x5 x6).mono (fun e w' ⟨h, hb⟩ => by
    rcases h with ⟨h1, rfl⟩ | ⟨h1, rfl⟩
    · exact ⟨_, 0, .inl ⟨h1, rfl, rfl⟩, rfl, hb⟩
    · exact ⟨_, 10, .inr ⟨h1, rfl, rfl⟩, rfl, hb⟩))
theorem allCt {S : Nat → Prop} {w : World} {l b base n fi : Nat} {F : List Bk} {O : List (Nat × Bk)} (hl : LogC w l b base n fi) (hd : Dv S w b F O []) (hn : ∀ j, w.heap.size ≤ j → S j) (hSl : ¬ S l) (hN : Nib w)
    (hSN : ¬ S 0) (hfi : TellsC fi) (hbn : base + n ≤ F.length) :
    Calls Tryz.prog 65 #[.pointer (some ⟨l, 0, none⟩)] w (AllOut S w b l F O 54 6 kindC zsC base n) :=
  allC_log hl hd hn hSl hN hSN hfi hbn kindC kindC_ok kindC_get
end Go.Proofs.YtnadilfobmgebaaGreatDoor
