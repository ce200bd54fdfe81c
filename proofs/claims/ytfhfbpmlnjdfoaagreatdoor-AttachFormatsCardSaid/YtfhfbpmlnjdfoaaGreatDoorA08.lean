/- Pages: may numbers be a page, the whole. A thing of the kind Page, as a sector. The form of the kind Page; Put of a thing. A sector of numbers is those numbers: for any form whose numbers fit. Pages. Pages of entries: their numbers may be. A device: Firm. A device's calls, as functions of its state. -/
import Derived.Test.YtfhfbpmlnjdfoaaGreatDoorA07
import Derived.Test.YtfhfbpmlnjdfoaaGreatDoorA06
import Derived.Laws.EntriesVeiled
import Derived.Test.YtfhfbpmlnjdfoaaGreatDoorA03
namespace Go.Proofs.YtfhfbpmlnjdfoaaGreatDoor
open Go Go.RowKit
set_option maxRecDepth 100000 in
set_option maxHeartbeats 2000000 in
theorem mayP_any {w : World} {gl ol cl gt : Nat} {v : Value} (xs : List Int) (hxl : xs.length = 20) (hcl : 20 ≤ cl) (hcm : cl ≤ maxLen) (hv : w.cell? ⟨gt, 0, none⟩ = some v) (hB : Bnd w v bndP) (hx : w.rangeAt gl ol (ints xs)) :
    Calls Tryz.prog 308 #[.slice (some ⟨gl, ol, none⟩) 20 cl, .pointer (some ⟨gt, 0, none⟩)] w fun e w' => e = .returned (.bool (mayP xs)) ∧ Below w.heap.size w w' := by
  obtain ⟨g, h, cc, rfl, hc, hr⟩ := hB
  obtain ⟨x1, hx1⟩ : ∃ x1, xs.getD 1 0 = x1 := ⟨_, rfl⟩
  obtain ⟨x2, hx2⟩ : ∃ x2, xs.getD 2 0 = x2 := ⟨_, rfl⟩
  have c1 : w.cell? ⟨gl, ol + 1, none⟩ = some (.int .i64 x1) := by
    rw [ints_range hx (i := 1) (by omega), ← hx1]; simp [List.getD_eq_getElem?_getD, show 1 < xs.length by omega]
  have c2 : w.cell? ⟨gl, ol + 2, none⟩ = some (.int .i64 x2) := by
    rw [ints_range hx (i := 2) (by omega), ← hx2]; simp [List.getD_eq_getElem?_getD, show 2 < xs.length by omega]
  have hud : Upd (fun _ => False) w w.drew := (Upd.refl _ _).drew
  have HX := Lib.hid (And.intro (hud.range hx (fun h => h)) (And.intro (hud.cellv hc (fun h => h)) (And.intro (hud.range hr (fun h => h)) (And.intro hxl (And.intro hcl hcm)))))
  have HM : Hid (mayP xs = (withinB bndP xs && decide (x1 < x2) && entsB xs)) := by show _ = _; rw [mayP, hx1, hx2]
  clear hx hr hc hud hx1 hx2 hxl hcm
  obtain ⟨wb, hw⟩ : ∃ wb, withinB bndP xs = wb := ⟨_, rfl⟩
  have HW := Lib.hid hw
  cases wb
  · rw [hw] at HM
    clear hw
    go_enter Tryz.func308, Tryz.ntmps308
    go_wp2
    refine wp_region_held_drew (S := fun W => W.cell? ⟨gt, 0, none⟩ = some (.func (.func 196) #[] #[.pointer (some ⟨g, 0, none⟩)]) ∧ W.cell? ⟨gl, ol + 1, none⟩ = some (.int .i64 x1) ∧ W.cell? ⟨gl, ol + 2, none⟩ = some (.int .i64 x2)) (by kernel_rfl) (by (simp only [World.cell?_drew]); exact ⟨hv, c1, c2⟩) (fun hHeld => ?_)
    refine Wl.i [0, 1] ?_; iterate 2 refine Wl.t hHeld ?_
    refine Wl.o ?_
    refine Wl.r 2 (fun K hK => ?_)
    go_simp
    refine (within_any bndP xs HX.out.2.1 HX.out.2.2.1 HX.out.1 HX.out.2.2.2.1 (by show 4 ≤ 20; decide) (by decide)).mono ?_
    rw [HW.out]
    rintro e w' ⟨rfl, hb⟩
    refine hK.out _ _ (have hU := Upd.of_below (S := fun _ => False) hb; ⟨hU.cellv hHeld.1 (fun h => h), hU.cellv hHeld.2.1 (fun h => h), hU.cellv hHeld.2.2 (fun h => h)⟩) (fun hH1 => ?_)
    clear hK K
    refine Wl.i [3, 4, 5, 6, 7, 8, 9, 10] ?_; iterate 8 refine Wl.t hH1 ?_
    refine Wl.o ?_
    refine Wl.r 11 (fun K hK => ?_)
    go_simp
    refine hK.out _ _ (hH1) (fun hH2 => ?_)
    clear hK K
    refine Wl.i [12, 13, 14] ?_; iterate 3 refine Wl.t hH2 ?_
    refine Wl.o ?_
    refine Wl.r 15 (fun K hK => ?_)
    go_simp
    refine hK.out _ _ (hH2) (fun hH3 => ?_)
    clear hK K
    refine Wl.r 16 (fun K hK => ?_)
    go_simp
    refine hK.out _ _ (hH3) (fun hH4 => ?_)
    clear hK K
    refine Wl.d ?_
    have HB2 : Hid (Below w.heap.size w w') := bundrew' hb
    clear hb
    go_wp2
    go_ret
    exact ⟨by rw [HM.out]; rfl, HB2.out⟩
  · rw [hw] at HM
    clear hw
    by_cases h12 : x1 < x2
    · have q12 : decide (x1 < x2) = true := by simpa using h12
      rw [q12] at HM
      clear h12
      obtain ⟨eb, he⟩ : ∃ eb, entsB xs = eb := ⟨_, rfl⟩
      have HE := Lib.hid he
      rw [he] at HM
      clear he
      go_enter Tryz.func308, Tryz.ntmps308
      go_wp2
      refine wp_region_held_drew (S := fun W => W.cell? ⟨gt, 0, none⟩ = some (.func (.func 196) #[] #[.pointer (some ⟨g, 0, none⟩)]) ∧ W.cell? ⟨gl, ol + 1, none⟩ = some (.int .i64 x1) ∧ W.cell? ⟨gl, ol + 2, none⟩ = some (.int .i64 x2)) (by kernel_rfl) (by (simp only [World.cell?_drew]); exact ⟨hv, c1, c2⟩) (fun hHeld => ?_)
      refine Wl.i [0, 1] ?_; iterate 2 refine Wl.t hHeld ?_
      refine Wl.o ?_
      refine Wl.r 2 (fun K hK => ?_)
      go_simp
      refine (within_any bndP xs HX.out.2.1 HX.out.2.2.1 HX.out.1 HX.out.2.2.2.1 (by show 4 ≤ 20; decide) (by decide)).mono ?_
      rw [HW.out]
      rintro e w' ⟨rfl, hb⟩
      refine hK.out _ _ (have hU := Upd.of_below (S := fun _ => False) hb; ⟨hU.cellv hHeld.1 (fun h => h), hU.cellv hHeld.2.1 (fun h => h), hU.cellv hHeld.2.2 (fun h => h)⟩) (fun hH1 => ?_)
      clear hK K
      refine Wl.i [3, 4, 5, 6, 7, 8, 9, 10] ?_; iterate 8 refine Wl.t hH1 ?_
      refine Wl.o ?_
      refine Wl.r 11 (fun K hK => ?_)
      go_simp
      refine hK.out _ _ (hH1) (fun hH2 => ?_)
      clear hK K
      refine Wl.i [12, 13] ?_; iterate 2 refine Wl.t hH2 ?_
      refine Wl.o ?_
      refine Wl.r 14 (fun K hK => ?_)
      go_simp
      refine (ents_any (Below.range hb HX.out.1) HX.out.2.2.2.1 HX.out.2.2.2.2.1 HX.out.2.2.2.2.2).mono ?_
      rw [HE.out]
      rintro e w'' ⟨rfl, hb2⟩
      refine hK.out _ _ (have hU := Upd.of_below (S := fun _ => False) hb2; ⟨hU.cellv hH2.1 (fun h => h), hU.cellv hH2.2.1 (fun h => h), hU.cellv hH2.2.2 (fun h => h)⟩) (fun hH3 => ?_)
      clear hK K
      refine Wl.r 15 (fun K hK => ?_)
      go_simp
      refine hK.out _ _ (hH3) (fun hH4 => ?_)
      clear hK K
      refine Wl.r 16 (fun K hK => ?_)
      go_simp
      refine hK.out _ _ (hH4) (fun hH5 => ?_)
      clear hK K
      refine Wl.d ?_
      have HB2 : Hid (Below w.heap.size w w'') := bundrew' (hb.trans (hb2.mono hb.size))
      clear hb hb2
      go_wp2
      go_ret
      exact ⟨by rw [HM.out]; cases eb <;> rfl, HB2.out⟩
    · have q12 : decide (x1 < x2) = false := by simpa using h12
      rw [q12] at HM
      clear h12
      go_enter Tryz.func308, Tryz.ntmps308
      go_wp2
      refine wp_region_held_drew (S := fun W => W.cell? ⟨gt, 0, none⟩ = some (.func (.func 196) #[] #[.pointer (some ⟨g, 0, none⟩)]) ∧ W.cell? ⟨gl, ol + 1, none⟩ = some (.int .i64 x1) ∧ W.cell? ⟨gl, ol + 2, none⟩ = some (.int .i64 x2)) (by kernel_rfl) (by (simp only [World.cell?_drew]); exact ⟨hv, c1, c2⟩) (fun hHeld => ?_)
      refine Wl.i [0, 1] ?_; iterate 2 refine Wl.t hHeld ?_
      refine Wl.o ?_
      refine Wl.r 2 (fun K hK => ?_)
      go_simp
      refine (within_any bndP xs HX.out.2.1 HX.out.2.2.1 HX.out.1 HX.out.2.2.2.1 (by show 4 ≤ 20; decide) (by decide)).mono ?_
      rw [HW.out]
      rintro e w' ⟨rfl, hb⟩
      refine hK.out _ _ (have hU := Upd.of_below (S := fun _ => False) hb; ⟨hU.cellv hHeld.1 (fun h => h), hU.cellv hHeld.2.1 (fun h => h), hU.cellv hHeld.2.2 (fun h => h)⟩) (fun hH1 => ?_)
      clear hK K
      refine Wl.i [3, 4, 5, 6, 7, 8, 9, 10] ?_; iterate 8 refine Wl.t hH1 ?_
      refine Wl.o ?_
      refine Wl.r 11 (fun K hK => ?_)
      go_simp
      refine hK.out _ _ (hH1) (fun hH2 => ?_)
      clear hK K
      refine Wl.i [12, 13, 14] ?_; iterate 3 refine Wl.t hH2 ?_
      refine Wl.o ?_
      refine Wl.r 15 (fun K hK => ?_)
      go_simp
      refine hK.out _ _ (hH2) (fun hH3 => ?_)
      clear hK K
      refine Wl.r 16 (fun K hK => ?_)
      go_simp
      refine hK.out _ _ (hH3) (fun hH4 => ?_)
      clear hK K
      refine Wl.d ?_
      have HB2 : Hid (Below w.heap.size w w') := bundrew' hb
      clear hb
      go_wp2
      go_ret
      exact ⟨by rw [HM.out]; rfl, HB2.out⟩
theorem within_at {B : List (Int × Int)} {xs : List Int} (h : withinB B xs = true) {i : Nat} (hi : i < B.length) (hx : i < xs.length) : B[i].1 ≤ xs[i] ∧ xs[i] ≤ B[i].2 := by
  unfold withinB at h
  rw [List.all_eq_true] at h
  have := h (B[i], xs[i]) (by rw [List.mem_iff_getElem]; exact ⟨i, by simp; omega, by simp⟩)
  simpa [inB] using this
theorem mayP_fits {xs : List Int} (hx : xs.length = 20) (h : mayP xs = true) : (∀ x ∈ xs, 0 ≤ x) ∧ Fits (numL [6, 2, 2, 1, 2, 2, 1, 4, 2, 2, 1, 4, 2, 2, 1, 4, 2, 2, 1, 4] xs) := by
  simp only [mayP, Bool.and_eq_true] at h
  obtain ⟨⟨h1, h2⟩, h3⟩ := h
  have a0 := within_at h1 (i := 0) (by decide) (by omega)
  have a1 := within_at h1 (i := 1) (by decide) (by omega)
  have a2 := within_at h1 (i := 2) (by decide) (by omega)
  have a3 := within_at h1 (i := 3) (by decide) (by omega)
  simp [bndP] at a0 a1 a2 a3
  unfold entsB at h3
  rw [List.all_eq_true] at h3
  have hr : ∀ i (_ : i < 4), ∀ j (_ : j < 4), ∃ h : 4 + 4 * i + j < xs.length, 0 ≤ xs[4 + 4 * i + j] ∧ xs[4 + 4 * i + j] ≤ bndE[j]!.2 := by
    intro i hi j hj
    refine ⟨by omega, ?_⟩
    have hrow := h3 i (by simpa using hi)
    have hlen := rowI_len hx hi
    have e : (rowI xs i)[j]'(by omega) = xs[4 + 4 * i + j]'(by omega) := by simp [rowI]
    rw [← e]
    unfold entB at hrow
    split at hrow
    · have := within_at hrow (i := j) (by simpa [bndE] using hj) (by omega)
      rcases j with _ | _ | _ | _ | j
      all_goals first | omega | (simp [bndE] at this ⊢; omega)
    · simp at hrow
      have h0 : (rowI xs i)[j]'(by omega) = 0 := by
        simp only [hrow]
        rcases j with _ | _ | _ | _ | j
        all_goals first | omega | rfl
      rw [h0]
      rcases j with _ | _ | _ | _ | j
      all_goals first | omega | (simp [bndE])
  have hb : ∀ i (h1 : i < xs.length) (h2 : i < [6, 2, 2, 1, 2, 2, 1, 4, 2, 2, 1, 4, 2, 2, 1, 4, 2, 2, 1, 4].length), 0 ≤ xs[i] ∧ xs[i] < 256 ^ [6, 2, 2, 1, 2, 2, 1, 4, 2, 2, 1, 4, 2, 2, 1, 4, 2, 2, 1, 4][i] := by
    intro i hi hi2
    by_cases hi4 : i < 4
    · rcases i with _ | _ | _ | _ | i
      all_goals first | omega | (simp; omega)
    · obtain ⟨k, j, hk, hj, rfl⟩ : ∃ k j, k < 4 ∧ j < 4 ∧ i = 4 + 4 * k + j := ⟨(i - 4) / 4, (i - 4) % 4, by omega, by omega, by omega⟩
      obtain ⟨hh, r1, r2⟩ := hr k hk j hj
      refine ⟨r1, ?_⟩
      have hk' : k = 0 ∨ k = 1 ∨ k = 2 ∨ k = 3 := by omega
      have hj' : j = 0 ∨ j = 1 ∨ j = 2 ∨ j = 3 := by omega
      rcases hk' with rfl | rfl | rfl | rfl <;> rcases hj' with rfl | rfl | rfl | rfl <;> simp [bndE] at r2 ⊢ <;> omega
  refine ⟨fun x hx2 => ?_, numL_fits (by rw [hx]; rfl) (by decide) (by decide) hb⟩
  obtain ⟨i, hi, rfl⟩ := List.getElem_of_mem hx2
  exact (hb i hi (by simp; omega)).1
set_option maxRecDepth 100000 in
set_option maxHeartbeats 2000000 in
theorem putP_yes {w : World} (k : Nat) (hk : k < 256) (l : List (Nat × Nat)) (hl : Fits l) (m : Nat) (hm : l.length = m) (hm2 : m ≤ 100) (gs cl : Nat) (ft fm : Nat) (ct cm : Array Value) (bv : Value) (_hbv : bv.oneCell' = true) (cs : List Value)
    (hcs : (Tryz.prog.info? 280).map (·.size) = some cs.length) (hs : w.rangeAt gs 0 (ints (sizesL l))) (hN : Nib w)
    (entT : ∀ args w, (callFunc ft args).run Tryz.prog w = .ok (.enter ft args) w) (entM : ∀ args w, (callFunc fm args).run Tryz.prog w = .ok (.enter fm args) w)
    (htell : ∀ W, Below w.heap.size w W → Calls Tryz.prog ft (#[.agg cs.toArray] ++ ct) W (TellPostC W m (numsL l)))
    (hmay : ∀ W gl c, m ≤ c → c ≤ maxLen → Below w.heap.size w W → W.rangeAt gl 0 (ints (numsL l)) → Calls Tryz.prog fm (#[.slice (some ⟨gl, 0, none⟩) m c] ++ cm) W fun e W' => e = .returned (.bool true) ∧ Below W.heap.size W W') :
    Calls Tryz.prog 316 #[.agg #[.int .i64 (k : Int), .slice (some ⟨gs, 0, none⟩) m cl, .func (.func ft) #[] ct, .func (.func fm) #[] cm, bv], .agg cs.toArray] w
      fun e w' => e = .returned (.tuple #[.agg (bkC (sectB k l)).toArray, .int .i64 0]) ∧ Below w.heap.size w w' := by
  have H := Lib.hid (And.intro hs (And.intro hN (And.intro htell (And.intro hmay (And.intro hk (And.intro hl hm))))))
  have HC := Lib.hid hcs
  clear hs hN htell hmay hk hl hm hcs
  have hr : ((w.alloc (.cells #[.int .i64 (k : Int), .slice (some ⟨gs, 0, none⟩) m cl, .func (.func ft) #[] ct, .func (.func fm) #[] cm, bv] 380)).alloc (.cells cs.toArray 280)).rangeAt (w.heap.size + 1) 0 cs := range_of_block (heap_alloc_last _ _ (by simp))
  go_enter Tryz.func316, Tryz.ntmps316
  go_wp2_with (first
    | (refine wpList_load_mid rfl _ _ rfl _ _ rfl _ _ (World.rangeAt_alloc hr _) Tryz.underlying280 rfl HC.out ?_)
    | fail)
  show Calls _ _ _ (((w.alloc (.cells #[.int .i64 (k : Int), .slice (some ⟨gs, 0, none⟩) m cl, .func (.func ft) #[] ct, .func (.func fm) #[] cm, bv] 380)).alloc (.cells cs.toArray 280)).alloc (.cells (bkC zB).toArray 54)) _
  obtain ⟨h1, h2, h3, h4, h5⟩ := three_new w (.cells #[.int .i64 (k : Int), .slice (some ⟨gs, 0, none⟩) m cl, .func (.func ft) #[] ct, .func (.func fm) #[] cm, bv] 380) (.cells cs.toArray 280) (.cells (bkC zB).toArray 54)
  clear hr
  generalize ((w.alloc (.cells #[.int .i64 (k : Int), .slice (some ⟨gs, 0, none⟩) m cl, .func (.func ft) #[] ct, .func (.func fm) #[] cm, bv] 380)).alloc (.cells cs.toArray 280)).alloc (.cells (bkC zB).toArray 54) = w3 at *
  refine (H.out.2.2.1 w3 (Upd.below h5)).mono ?_
  rintro e w4 ⟨gl, c4, rfl, hc4, hc5, hr4, hb4⟩
  have hu4 : Upd (fun _ => False) w3 w4 := Upd.of_below hb4
  have f1 := (hu4.block _ (lt_of_block h1) (fun h => h)).trans h1
  have f3 := (hu4.block _ (lt_of_block h3) (fun h => h)).trans h3
  have m3 : w4.cell? ⟨w.heap.size, 3, none⟩ = some (.func (.func fm) #[] cm) := cell_of_block f1 3
  have H4 := Lib.hid (And.intro hr4 (And.intro (h5.trans hu4) (And.intro f1 (And.intro f3 h4))))
  clear h1 h2 h3 h4 h5 hr4 hb4 hu4 f1 f3
  go_wp2_with fail
  refine (H.out.2.2.2.1 w4 gl c4 hc4 hc5 (Upd.below H4.out.2.1) H4.out.1).mono ?_
  rintro e w5 ⟨rfl, hb5⟩
  have hu5 : Upd (fun _ => False) w4 w5 := Upd.of_below hb5
  obtain ⟨r4, u4, f1, f3, z4⟩ := H4.out
  have r5 := hu5.range r4 (fun h => h)
  have g1 := (hu5.block _ (lt_of_block f1) (fun h => h)).trans f1
  have g3 := (hu5.block _ (lt_of_block f3) (fun h => h)).trans f3
  have m0 : w5.cell? ⟨w.heap.size, 0, none⟩ = some (.int .i64 (k : Int)) := cell_of_block g1 0
  have z5 : w.heap.size + 3 ≤ w5.heap.size := by have h1 := lt_of_block g3; have h2 := hu5.size; have h3 := u4.size; have h4 := lt_of_block f3; have h5 := z4; have h6 := H4.out.2.2.2.2; omega
  have H5 := Lib.hid (And.intro r5 (And.intro (u4.trans hu5) (And.intro g1 g3)))
  clear r4 u4 f1 f3 z4 r5 g1 g3 hu5 hb5 m3
  go_wp2_with fail
  generalize hM : w.heap.size = M at *
  have HM := Lib.hid hM
  clear hM
  refine wp_region_held_drew (S := fun W => W.cell? ⟨M, 0, none⟩ = some (.int .i64 (k : Int))) (by kernel_rfl) (by rw [World.cell?_drew]; exact m0) (fun hHeld => ?_)
  refine wpAnyH_take (i := 1) (v := ?_) rfl (by kernel_rfl) (by kernel_rfl) (by kernel_rfl) (fun _ _ _ h => h) (Or.inl ⟨by rfl, ?_⟩) hHeld ?_
  rotate_left
  · intro W hSw; (try dsimp only at hSw); (try go_split_ands); go_simp; (try with_reducible rfl)
  simp only [Act.put, List.setIfInBounds_toArray]
  refine wpAnyH_take (i := 2) (v := ?_) rfl (by kernel_rfl) (by kernel_rfl) (by kernel_rfl) (fun _ _ _ h => h) (Or.inl ⟨by rfl, ?_⟩) hHeld ?_
  rotate_left
  · intro W hSw; (try dsimp only at hSw); (try go_split_ands); go_simp; (try with_reducible rfl)
  simp only [Act.put]
  refine Wl.r 0 (fun K hK => ?_)
  go_simp
  refine (wwrite _).mono ?_
  rintro e w6 ⟨g, rfl, hW, hge, hB⟩
  have hge' : w5.heap.size ≤ g := hge
  refine hK.out _ _ ((Upd.of_below (S := fun _ => False) hB).cellv hHeld (fun h => h)) (fun hHeld2 => ?_)
  clear hK K
  refine Wl.r 3 (fun K hK => ?_)
  go_simp
  refine (wput hW k 1 (by decide) (by decide) (by have := H.out.2.2.2.2.1; omega) (by decide)).mono ?_
  rintro e w7 ⟨rfl, hW2, hU⟩
  refine hK.out _ _ (hU.cellv hHeld2 (by omega)) (fun hHeld3 => ?_)
  clear hK K
  refine Wl.r 4 (fun K hK => ?_)
  go_simp
  refine hK.out _ _ (hHeld3) (fun _ => ?_)
  clear hK K
  refine Wl.d ?_
  obtain ⟨r5, u5, g1, g3⟩ := H5.out
  obtain ⟨hs, hN, -, -, hk, hl, hm⟩ := H.out
  have u57 : Upd (fun j => j = g) w5 w7 := ((Upd.of_below (S := fun _ => False) (bundrew' hB)).mono (fun _ _ h => h.elim)).trans hU
  have glt : gl < w5.heap.size ∨ m = 0 := by
    rcases Nat.eq_zero_or_pos m with h | h
    · exact .inr h
    · exact .inl (World.block_lt_of_cell? w5 _ (r5 0 _ (numsL_get (by omega))))
  have nM : w.heap.size = M := HM.out
  have gslt : gs < w.heap.size ∨ m = 0 := by
    rcases Nat.eq_zero_or_pos m with h | h
    · exact .inr h
    · exact .inl (World.block_lt_of_cell? w _ (hs 0 _ (sizesL_get (by omega))))
  have ws5 := u5.size
  have m1 : w7.cell? ⟨M, 1, none⟩ = some (.slice (some ⟨gs, 0, none⟩) m cl) := u57.cellv (cell_of_block g1 1) (by omega)
  have g3' := (u57.block (M + 1 + 1) (lt_of_block g3) (by omega)).trans g3
  have hN7 : Nib w7 := ((hN.keep u5 (fun h => h)).keep u57 (by have := hN.lt; omega))
  have hlow : Below M w w7 := below_upd (by rw [← nM]; exact Upd.below u5) u57 (by rw [← nM]; exact Nat.le_refl _) (fun k e => by omega)
  have hr7 : ∀ i (hi : i < l.length) W, Upd (fun j => j = g) w7 W → W.cell? ⟨gl, 0 + i, none⟩ = some (.int .i64 (l[i].1 : Int)) := fun i hi W hW => hW.cellv (u57.cellv (r5 i _ (numsL_get hi)) (by omega)) (by omega)
  have hs7 : ∀ i (hi : i < l.length) W, Upd (fun j => j = g) w7 W → W.cell? ⟨gs, 0 + i, none⟩ = some (.int .i64 (l[i].2 : Int)) := fun i hi W hW => hW.cellv (u57.cellv ((u5.range hs (fun h => h)) i _ (sizesL_get hi)) (by omega)) (by omega)
  have H7 := Lib.hid (And.intro hr7 (And.intro hs7 (And.intro m1 (And.intro g3' (And.intro hN7 (And.intro hlow (And.intro hl (And.intro hm hW2))))))))
  have hgeM : M ≤ g := by omega
  have hgM : ¬ M = g := by omega
  have hgM2 : ¬ M + 1 + 1 = g := by omega
  have hMw := lt_of_block g3'
  rename_i hx
  clear hx hHeld hHeld2 hHeld3 hW hge hB hU hW2 hN hs hk hl hm r5 u5 g1 g3 u57 glt gslt nM ws5 m1 g3' hN7 hlow hr7 hs7 m0
  go_wp2
  go_loopw [26] (fun s26 wr => ∃ i : Nat, i ≤ m ∧ s26 = .int .i64 i ∧ WrAt wr g (lowB k 1 ++ encB (l.take i)) ∧ Upd (fun j => j = g) w7 wr) (fun s26 _ => m - (intOf s26).toNat)
  case atStart => exact ⟨0, Nat.zero_le _, rfl, by simpa [encB] using H7.out.2.2.2.2.2.2.2.2, Upd.refl _ _⟩
  case round =>
    obtain ⟨i, hi, rfl, hW, hu⟩ := hrel
    by_cases hlt : i < m
    · obtain ⟨hr7, hs7, m1, g3', hN7, hlow, hl, hm, -⟩ := H7.out
      have hil : i < l.length := by omega
      have x1 := hr7 i hil wr hu
      have x2 := hs7 i hil wr hu
      have x3 := hu.cellv m1 hgM
      rw [Nat.zero_add] at x1 x2
      have hfit := hl.1 l[i] (List.getElem_mem hil)
      have hsz := sizes_take l hil
      have hts : Hid (encB (l.take (i + 1)) = encB (l.take i) ++ lowB l[i].1 l[i].2) := by show _ = _; rw [List.take_succ_eq_append_getElem hil, encB_snoc]
      have hlen : (lowB k 1 ++ encB (l.take i)).length + l[i].2 ≤ 60 := by
        rw [List.length_append, lowB_len, encB_len]; have := hl.2; omega
      have b1 : (0 : Int) ≤ (i : Int) ∧ (i : Int) < (m : Int) := by omega
      have HX := Lib.hid (And.intro hW (And.intro hu (And.intro hfit hlen)))
      clear hr7 hs7 m1 g3' hN7 hlow hl hm hW hu hfit hsz hlen
      obtain ⟨b1, b2⟩ := b1
      generalize l[i] = p at *
      go_wp2_with fail
      refine (wput HX.out.1 p.1 p.2 HX.out.2.2.1.2.1 HX.out.2.2.1.2.2 HX.out.2.2.1.1 HX.out.2.2.2).mono ?_
      rintro e w8 ⟨rfl, hW8, hU8⟩
      have HZ := Lib.hid (And.intro hW8 hU8)
      clear hW8 hU8
      go_wp2
      go_roundw
      case rel => exact ⟨i + 1, by omega, by go_num, by rw [hts.out, ← List.append_assoc]; exact HZ.out.1, HX.out.2.1.trans HZ.out.2⟩
      case measure => simp [intOf]; omega
    · obtain rfl : i = m := by omega
      obtain ⟨hr7, hs7, m1, g3', hN7, hlow, hl, hm, -⟩ := H7.out
      have hN8 := hN7.keep hu (by have := (H.out.2.1).lt; have := HM.out; omega)
      rw [List.take_of_length_le (by omega)] at hW
      have hg3 := (hu.block (M + 1 + 1) (lt_of_block g3') hgM2).trans g3'
      have hlen : Hid ((sectB k l).length = 64) := sectB_len hl.2
      have HX := Lib.hid (And.intro hW (And.intro hN8 (And.intro hu (And.intro hg3 (And.intro hlow hl)))))
      have hus := hu.size
      clear hr7 hs7 m1 g3' hN7 hlow hl hm hW hu hN8 hg3
      go_wp2_with fail
      refine (wseal HX.out.1 HX.out.2.1).mono ?_
      rintro e w9 ⟨rfl, hb9⟩
      have hg9 := (hb9.block (M + 1 + 1) (lt_of_block HX.out.2.2.2.1)).trans HX.out.2.2.2.1
      have hth : w9.there (M + 1 + 1) 0 64 := fun j hj => by
        rw [cell_of_block hg9, frozen_of_block hg9]
        exact ⟨by rw [Nat.zero_add, Array.getElem?_eq_getElem (by rw [bkC_size _ zB_len]; exact hj)]; rfl, rfl⟩
      have hbl : Hid (Below M w w9) := (below_upd HX.out.2.2.2.2.1 HX.out.2.2.1 (by have := HM.out; omega) (fun k e => by omega)).trans (hb9.mono (by omega))
      have hsl := hlen.out
      have hst : w9.there (M + 1 + 1) 0 (bkC (sectB k l)).toArray.size := by rw [bkC_size _ hsl]; exact hth
      have hst2 : w9.there (M + 1 + 1) 0 (bkC (sectB k l)).length := by rw [bkC_len, hsl]; exact hth
      have hsz2 : (Tryz.prog.info? 54).map (·.size) = some (bkC (sectB k l)).toArray.size := by rw [bkC_size _ hsl]; exact sizeBk'
      have HST := Lib.hid (And.intro hst (And.intro hsz2 (And.intro hst2 hsl)))
      clear hst hsz2 hst2 hsl hg9 hth hb9 hlen
      rw [show sealB (padB (lowB k 1 ++ encB l)) = sectB k l from rfl]
      generalize hsb : sectB k l = sb at *
      have Hsb := Lib.hid hsb
      clear hsb
      go_wp2_with (first
        | (refine wpList_store_mid rfl _ _ _ rfl _ _ (bkC sb).toArray rfl rfl HST.out.1 HST.out.2.1 (all_oneCell_toArray (bkC_one _)) ?_)
        | fail)
      refine bodyPost_ret (results_mid2 rfl _ _ (M + 1 + 1) 0 (bkC sb) _ rfl (World.rangeAt_setCells_same _ _ _ _ HST.out.2.2.1) Tryz.underlying54 rfl (sizeBk _ HST.out.2.2.2)) rfl
          ⟨by rw [Hsb.out]; rfl, ?_⟩
      rw [HM.out]
      exact below_upd hbl.out (upd_row w9 (M + 1 + 1) 0 _) (by have := HM.out; omega) (fun k e => by omega)
set_option maxRecDepth 100000 in
set_option maxHeartbeats 2000000 in
theorem putP_no {w : World} (k : Nat) (xs : List Int) (m : Nat) (gs cl : Nat) (ft fm : Nat) (ct cm : Array Value) (bv : Value) (_hbv : bv.oneCell' = true) (cs : List Value)
    (hcs : (Tryz.prog.info? 280).map (·.size) = some cs.length) 
    (entT : ∀ args w, (callFunc ft args).run Tryz.prog w = .ok (.enter ft args) w) (entM : ∀ args w, (callFunc fm args).run Tryz.prog w = .ok (.enter fm args) w)
    (htell : ∀ W, Below w.heap.size w W → Calls Tryz.prog ft (#[.agg cs.toArray] ++ ct) W (TellPostC W m xs))
    (hmay : ∀ W gl c, m ≤ c → c ≤ maxLen → Below w.heap.size w W → W.rangeAt gl 0 (ints xs) → Calls Tryz.prog fm (#[.slice (some ⟨gl, 0, none⟩) m c] ++ cm) W fun e W' => e = .returned (.bool false) ∧ Below W.heap.size W W') :
    Calls Tryz.prog 316 #[.agg #[.int .i64 (k : Int), .slice (some ⟨gs, 0, none⟩) m cl, .func (.func ft) #[] ct, .func (.func fm) #[] cm, bv], .agg cs.toArray] w
      fun e w' => e = .returned (.tuple #[bkV zB, .int .i64 10]) ∧ Below w.heap.size w w' := by
  have H := Lib.hid (And.intro htell hmay)
  have HC := Lib.hid hcs
  clear htell hmay hcs
  have hr : ((w.alloc (.cells #[.int .i64 (k : Int), .slice (some ⟨gs, 0, none⟩) m cl, .func (.func ft) #[] ct, .func (.func fm) #[] cm, bv] 380)).alloc (.cells cs.toArray 280)).rangeAt (w.heap.size + 1) 0 cs := range_of_block (heap_alloc_last _ _ (by simp))
  go_enter Tryz.func316, Tryz.ntmps316
  go_wp2_with (first
    | (refine wpList_load_mid rfl _ _ rfl _ _ rfl _ _ (World.rangeAt_alloc hr _) Tryz.underlying280 rfl HC.out ?_)
    | fail)
  show Calls _ _ _ (((w.alloc (.cells #[.int .i64 (k : Int), .slice (some ⟨gs, 0, none⟩) m cl, .func (.func ft) #[] ct, .func (.func fm) #[] cm, bv] 380)).alloc (.cells cs.toArray 280)).alloc (.cells (bkC zB).toArray 54)) _
  obtain ⟨h1, h2, h3, h4, h5⟩ := three_new w (.cells #[.int .i64 (k : Int), .slice (some ⟨gs, 0, none⟩) m cl, .func (.func ft) #[] ct, .func (.func fm) #[] cm, bv] 380) (.cells cs.toArray 280) (.cells (bkC zB).toArray 54)
  clear hr
  generalize ((w.alloc (.cells #[.int .i64 (k : Int), .slice (some ⟨gs, 0, none⟩) m cl, .func (.func ft) #[] ct, .func (.func fm) #[] cm, bv] 380)).alloc (.cells cs.toArray 280)).alloc (.cells (bkC zB).toArray 54) = w3 at *
  refine (H.out.1 w3 (Upd.below h5)).mono ?_
  rintro e w4 ⟨gl, c4, rfl, hc4, hc5, hr4, hb4⟩
  have hu4 : Upd (fun _ => False) w3 w4 := Upd.of_below hb4
  have f1 := (hu4.block _ (lt_of_block h1) (fun h => h)).trans h1
  have f3 := (hu4.block _ (lt_of_block h3) (fun h => h)).trans h3
  have m3 : w4.cell? ⟨w.heap.size, 3, none⟩ = some (.func (.func fm) #[] cm) := cell_of_block f1 3
  have H4 := Lib.hid (And.intro hr4 (And.intro (h5.trans hu4) (And.intro f1 (And.intro f3 h4))))
  clear h1 h2 h3 h4 h5 hr4 hb4 hu4 f1 f3
  go_wp2_with fail
  refine (H.out.2 w4 gl c4 hc4 hc5 (Upd.below H4.out.2.1) H4.out.1).mono ?_
  rintro e w5 ⟨rfl, hb5⟩
  have hu5 : Upd (fun _ => False) w4 w5 := Upd.of_below hb5
  obtain ⟨r4, u4, f1, f3, z4⟩ := H4.out
  have g3 := (hu5.block _ (lt_of_block f3) (fun h => h)).trans f3
  have hth : w5.there (w.heap.size + 1 + 1) 0 64 := fun j hj => by
    rw [cell_of_block g3, frozen_of_block g3]
    exact ⟨by rw [Nat.zero_add, Array.getElem?_eq_getElem (by rw [bkC_size _ zB_len]; exact hj)]; rfl, rfl⟩
  obtain ⟨z, Hz⟩ : ∃ z : Bk, Hid (z = zB) := ⟨zB, rfl⟩
  have hst : w5.there (w.heap.size + 1 + 1) 0 (bkC z).toArray.size := by rw [Hz.out, bkC_size _ zB_len]; exact hth
  have hst2 : w5.there (w.heap.size + 1 + 1) 0 (bkC z).length := by rw [Hz.out, bkC_len, zB_len]; exact hth
  have hsz2 : (Tryz.prog.info? 54).map (·.size) = some (bkC z).toArray.size := by rw [Hz.out, bkC_size _ zB_len]; exact sizeBk'
  have HST := Lib.hid (And.intro hst (And.intro hsz2 hst2))
  have HU := Lib.hid (u4.trans hu5)
  clear r4 u4 f1 f3 z4 hst hst2 hsz2 hth hu5 hb5 g3 m3
  go_wp2_with (first
      | (refine wpList_store_mid rfl _ _ _ rfl _ _ (bkC z).toArray rfl (by rw [Hz.out]; rfl) HST.out.1 HST.out.2.1 (all_oneCell_toArray (bkC_one _)) ?_)
      | fail)
  exact bodyPost_ret (results_mid2 rfl _ _ (w.heap.size + 1 + 1) 0 (bkC z) _ rfl (World.rangeAt_setCells_same _ _ _ _ HST.out.2.2) Tryz.underlying54 rfl (by rw [Hz.out]; exact sizeBk zB zB_len)) rfl
    ⟨by rw [Hz.out]; rfl, below_upd (Upd.below HU.out) (upd_row w5 (w.heap.size + 1 + 1) 0 _) (Nat.le_refl _) (fun k e => by omega)⟩
def szP : List Nat := [6, 2, 2, 1, 2, 2, 1, 4, 2, 2, 1, 4, 2, 2, 1, 4, 2, 2, 1, 4]
def formPV (gs gt : Nat) : Value := .agg #[.int .i64 3, .slice (some ⟨gs, 0, none⟩) 20 20, .func (.func 307) #[] #[], .func (.func 308) #[] #[.pointer (some ⟨gt, 0, none⟩)], .func (.func 310) #[] #[]]
def FormP (w : World) (gs gt : Nat) : Prop := w.rangeAt gs 0 (ints (natsI szP)) ∧ ∃ v, w.cell? ⟨gt, 0, none⟩ = some v ∧ Bnd w v bndP
theorem infoFoP : (Tryz.prog.info? 380).map (·.size) = some 5 := by kernel_rfl
theorem infoThP : (Tryz.prog.info? 280).map (·.size) = some 20 := by kernel_rfl
set_option maxRecDepth 100000 in
set_option maxHeartbeats 1000000 in
theorem pages_any (w : World) : Calls Tryz.prog 246 #[] w fun e w' => ∃ gs gt, e = .returned (formPV gs gt) ∧ FormP w' gs gt ∧ Below w.heap.size w w' := by
  have hmf : ∀ (fn : Fn) (first cap : Array Value) (w : World), (Instr.makeFunc fn first cap).run Tryz.prog w = .ok (.func fn first cap) w := fun _ _ _ _ => rfl
  go_enter Tryz.func246, Tryz.ntmps246
  go_wp2_with fail
  refine (within_ok).mono ?_
  rintro e w1 ⟨rfl, rfl⟩
  go_wp2
  obtain ⟨h1, h2, h3, h4, h5, h6, h7⟩ := five_new w (.cells #[.int .i64 3, .slice (some ⟨w.heap.size + 1 + 1 + 1 + 1, 0, none⟩) 20 20, .func (.func 307) #[] #[], .func (.func 308) #[] #[.pointer (some ⟨w.heap.size + 1 + 1 + 1, 0, none⟩)], .func (.func 310) #[] #[]] 380)
    (.cells (bndC bndP).toArray 219) (.cells #[.slice (some ⟨w.heap.size + 1, 0, none⟩) 4 4] 321) (.cells #[.func (.func 196) #[] #[.pointer (some ⟨w.heap.size + 1 + 1, 0, none⟩)]] 134) (.cells (ints (natsI szP)).toArray 3)
  refine bodyPost_ret (results_mid1 rfl _ _ w.heap.size 0 [.int .i64 3, .slice (some ⟨w.heap.size + 1 + 1 + 1 + 1, 0, none⟩) 20 20, .func (.func 307) #[] #[], .func (.func 308) #[] #[.pointer (some ⟨w.heap.size + 1 + 1 + 1, 0, none⟩)], .func (.func 310) #[] #[]] _ rfl (range_of_block h1) Tryz.underlying380 rfl infoFoP) rfl
    ⟨w.heap.size + 1 + 1 + 1 + 1, w.heap.size + 1 + 1 + 1, rfl, ⟨range_of_block h5, _, cell_of_block h4 0, w.heap.size + 1 + 1, w.heap.size + 1, 4, rfl, cell_of_block h3 0, range_of_block h2⟩, Upd.below h7⟩
def sectP (xs : List Int) : Bk := sectB 3 (numL szP xs)
theorem sectP_len {xs : List Int} (h : xs.length = 20) : (sectP xs).length = 64 := sectB_len (by rw [numL_sizes (by rw [h]; rfl)]; decide)
def PutPPost (w : World) (xs : List Int) (e : Ending) (w' : World) : Prop :=
  ((mayP xs = true ∧ e = .returned (.tuple #[.agg (bkC (sectP xs)).toArray, .int .i64 0])) ∨ (mayP xs = false ∧ e = .returned (.tuple #[.agg (bkC zB).toArray, .int .i64 10]))) ∧ Below w.heap.size w w'
set_option maxRecDepth 100000 in
theorem putP_any {w : World} {gs gt : Nat} (hF : FormP w gs gt) (hN : Nib w) (cs : List Value) (hcs : cs.length = 20) (xs : List Int) (hxl : xs.length = 20)
    (htell : ∀ W, Calls Tryz.prog 307 #[.agg cs.toArray] W (TellPostC W 20 xs)) :
    Calls Tryz.prog 316 #[formPV gs gt, .agg cs.toArray] w (PutPPost w xs) := by
  obtain ⟨hs, v, hv, hB⟩ := hF
  have hcz : (Tryz.prog.info? 280).map (·.size) = some cs.length := by rw [hcs]; exact infoThP
  have htell' : ∀ W, Below w.heap.size w W → Calls Tryz.prog 307 (#[.agg cs.toArray] ++ #[]) W (TellPostC W 20 xs) := fun W _ => htell W
  have hmay : ∀ W gl cc, 20 ≤ cc → cc ≤ maxLen → Below w.heap.size w W → W.rangeAt gl 0 (ints xs) → Calls Tryz.prog 308 (#[.slice (some ⟨gl, 0, none⟩) 20 cc] ++ #[.pointer (some ⟨gt, 0, none⟩)]) W fun e W' => e = .returned (.bool (mayP xs)) ∧ Below W.heap.size W W' := fun W gl cc hc hc2 hW hr =>
    mayP_any xs hxl hc hc2 ((Upd.of_below (S := fun _ => False) hW).cellv hv (fun h => h)) (hB.below hW) hr
  cases hm : mayP xs with
  | false =>
    rw [hm] at hmay
    exact (putP_no (w := w) 3 xs 20 gs 20 307 308 #[] #[.pointer (some ⟨gt, 0, none⟩)] (.func (.func 310) #[] #[]) rfl cs hcz (fun _ _ => rfl) (fun _ _ => rfl) htell' hmay).mono
      (fun e w' ⟨he, hb⟩ => ⟨.inr ⟨hm, he⟩, hb⟩)
  | true =>
    rw [hm] at hmay
    obtain ⟨h0, hfit⟩ := mayP_fits hxl hm
    have e : numsL (numL szP xs) = xs := numL_nums (by rw [hxl]; rfl) h0
    rw [← e] at htell' hmay
    exact (putP_yes (w := w) 3 (by decide) (numL szP xs) hfit 20 (by rw [numL_len (by rw [hxl]; rfl)]; rfl) (by decide) gs 20 307 308 #[] #[.pointer (some ⟨gt, 0, none⟩)] (.func (.func 310) #[] #[]) rfl cs hcz (by rw [numL_szs (by rw [hxl]; rfl)]; exact hs) hN (fun _ _ => rfl) (fun _ _ => rfl) htell' hmay).mono
      (fun e w' ⟨he, hb⟩ => ⟨.inl ⟨hm, he⟩, hb⟩)
set_option maxRecDepth 100000 in
set_option maxHeartbeats 1000000 in
theorem PutP_any {w : World} (hN : Nib w) (cs : List Value) (hcs : cs.length = 20) (xs : List Int) (hxl : xs.length = 20)
    (htell : ∀ W, Calls Tryz.prog 307 #[.agg cs.toArray] W (TellPostC W 20 xs)) :
    Calls Tryz.prog 268 #[.agg cs.toArray] w (PutPPost w xs) := by
  have HN := Lib.hid (And.intro hN htell)
  have hcz : (Tryz.prog.info? 280).map (·.size) = some cs.length := by rw [hcs]; exact infoThP
  have HC := Lib.hid hcz
  have hr : ((w.alloc (.cells cs.toArray 280)).alloc (.cells (bkC zB).toArray 54)).rangeAt w.heap.size 0 cs := World.rangeAt_alloc (range_of_block (heap_alloc_last w _ rfl)) _
  clear hN htell hcz
  go_enter Tryz.func268, Tryz.ntmps268
  go_wp2_with fail
  change Code.wp _ _ _ _ ((w.alloc (.cells cs.toArray 280)).alloc (.cells (bkC zB).toArray 54))
  have hg : ((w.alloc (.cells cs.toArray 280)).alloc (.cells (bkC zB).toArray 54)).heap[w.heap.size + 1]? = some (.cells (bkC zB).toArray 54) := heap_alloc_last _ _ (by simp)
  have hu : Upd (fun _ => False) w ((w.alloc (.cells cs.toArray 280)).alloc (.cells (bkC zB).toArray 54)) := ((Upd.refl _ w).alloc _).alloc _
  generalize (w.alloc (.cells cs.toArray 280)).alloc (.cells (bkC zB).toArray 54) = w2 at *
  have hb2 : Below w.heap.size w w2 := Upd.below hu
  refine wp_region_held_drew (S := fun W => W.rangeAt w.heap.size 0 cs) (by kernel_rfl) (by rw [World.rangeAt_drew]; exact hr) (fun hHeld => ?_)
  refine Wl.l 1 (fun w h => h) Tryz.underlying280 HC.out hHeld ?_
  refine Wl.r 0 (fun K hK => ?_)
  go_simp
  refine (pages_any _).mono ?_
  rintro e w3 ⟨gs, gt, rfl, hF, hb3⟩
  have hb3' : Below w2.heap.size w2 w3 := bundrew' hb3
  refine hK.out _ _ (Below.range hb3 hHeld) (fun hHeld2 => ?_)
  clear hK K
  refine Wl.r 2 (fun K hK => ?_)
  go_simp
  refine (putP_any hF ((HN.out.1.keep hu (fun h => h)).below hb3') cs hcs xs hxl HN.out.2).mono ?_
  rintro e w4 ⟨he, hb4⟩
  have hb4' : Below w2.heap.size w2 w4 := hb3'.trans (hb4.mono hb3'.size)
  have hg4 := (hb4'.block _ (lt_of_block hg)).trans hg
  have hth : w4.there (w.heap.size + 1) 0 64 := fun j hj => by
    rw [cell_of_block hg4, frozen_of_block hg4]
    exact ⟨by rw [Nat.zero_add, Array.getElem?_eq_getElem (by rw [bkC_size _ zB_len]; exact hj)]; rfl, rfl⟩
  obtain ⟨y, cd, hy, hres, rfl⟩ : ∃ (y : Bk) (cd : Int), y.length = 64 ∧ ((mayP xs = true ∧ y = sectP xs ∧ cd = 0) ∨ (mayP xs = false ∧ y = zB ∧ cd = 10)) ∧ e = .returned (.tuple #[.agg (bkC y).toArray, .int .i64 cd]) := by
    rcases he with ⟨hm, rfl⟩ | ⟨hm, rfl⟩
    · exact ⟨_, 0, sectP_len hxl, .inl ⟨hm, rfl, rfl⟩, rfl⟩
    · exact ⟨_, 10, zB_len, .inr ⟨hm, rfl, rfl⟩, rfl⟩
  have HR := Lib.hid (And.intro hy hres)
  clear he hy hres
  have hst : w4.there (w.heap.size + 1) 0 (bkC y).toArray.size := by rw [bkC_size _ HR.out.1]; exact hth
  have hst2 : w4.there (w.heap.size + 1) 0 (bkC y).length := by rw [bkC_len, HR.out.1]; exact hth
  have hsz2 : (Tryz.prog.info? 54).map (·.size) = some (bkC y).toArray.size := by rw [bkC_size _ HR.out.1]; exact sizeBk'
  refine hK.out _ _ (Below.range hb4 hHeld2) (fun hHeld3 => ?_)
  clear hK K
  refine Wl.i [3, 4] ?_; iterate 2 refine Wl.t hHeld3 ?_
  refine Wl.o ?_
  have hU5 : Below w.heap.size w (w4.setCells (w.heap.size + 1) 0 (bkC y)) := below_upd (hb2.trans (hb4'.mono hu.size)) (upd_row w4 (w.heap.size + 1) 0 _) (Nat.le_refl _) (fun k e => by omega)
  refine Wl.r 5 (fun K hK => ?_)
  rw [if_pos (by rfl)]
  refine wp_store_mid _ _ _ rfl _ _ (List.toArray _) rfl rfl (hst) (hsz2) (all_oneCell_toArray (bkC_one _)) ?_
  simp only [Act.put, List.setIfInBounds_toArray]
  refine hK.out _ _ ((upd_row w4 (w.heap.size + 1) 0 (bkC y)).range hHeld3 (by omega)) (fun hHeld4 => ?_)
  clear hK K
  refine Wl.r 6 (fun K hK => ?_)
  go_simp
  refine hK.out _ _ (hHeld4) (fun _ => ?_)
  clear hK K
  refine Wl.d ?_
  have HE := Lib.hid (And.intro hU5 hst2)
  clear hst hst2 hsz2 hU5 hth hg4 hb4 hb4' hb3 hb3' hHeld hHeld2 hHeld3 hHeld4 hF hr hg hu hb2
  go_wp2
  refine bodyPost_ret (results_mid2 rfl _ _ (w.heap.size + 1) 0 (bkC y) _ rfl (World.rangeAt_setCells_same _ _ _ _ HE.out.2) Tryz.underlying54 rfl (sizeBk _ HR.out.1)) rfl ⟨?_, HE.out.1⟩
  rcases HR.out.2 with ⟨hm, rfl, rfl⟩ | ⟨hm, rfl, rfl⟩
  · exact .inl ⟨hm, rfl⟩
  · exact .inr ⟨hm, rfl⟩
theorem sect_back {k : Nat} (hk : k < 256) {sz : List Nat} {xs : List Int} (h : xs.length = sz.length) (h0 : ∀ x ∈ xs, 0 ≤ x) (hf : Fits (numL sz xs)) (mb : Bool) :
    okGet (sectB k (numL sz xs)) k sz mb = mb ∧ natsI (numsAt (sectB k (numL sz xs)) 1 sz) = xs := by
  have h2 : (numL sz xs).map (·.2) = sz := by unfold numL; rw [List.map_snd_zip (by simp [h])]
  obtain ⟨s1, s2⟩ := sect_ok hk hf mb
  rw [h2] at s1 s2
  refine ⟨s1, ?_⟩
  rw [s2]
  have := numL_nums h h0
  unfold numsL at this
  unfold natsI
  rw [List.map_map]
  exact this
def numsP (b : Bk) : List Nat := numsAt b 1 szP
def okP (b : Bk) : Bool := okGet b 3 szP (mayP (natsI (numsP b)))
def cdP (b : Bk) : Int := cdGet b 3 szP (mayP (natsI (numsP b)))
theorem page_back {xs : List Int} (hx : xs.length = 20) (h : mayP xs = true) : okP (sectP xs) = true ∧ natsI (numsP (sectP xs)) = xs := by
  obtain ⟨h0, hf⟩ := mayP_fits hx h
  obtain ⟨s1, s2⟩ := sect_back (k := 3) (by decide) (sz := szP) (by rw [hx]; rfl) h0 hf (mayP (natsI (numsP (sectP xs))))
  have h3 : natsI (numsP (sectP xs)) = xs := s2
  refine ⟨?_, h3⟩
  unfold okP
  rw [show okGet (sectP xs) 3 szP (mayP (natsI (numsP (sectP xs)))) = mayP (natsI (numsP (sectP xs))) from s1, h3]
  exact h
def needN (n : Nat) : Nat := (n - 1) / 4 + 1
def partE (E : List Ent) (k : Nat) : List Ent := (E.drop (4 * k)).take 4
def padE (l : List Ent) : List Ent := l ++ List.replicate (4 - l.length) Ent.none
def pageXs (seq need : Nat) (E : List Ent) (k : Nat) : List Int := natsI (pgN seq k need (partE E k).length (padE (partE E k)))
def pagesTo (seq : Nat) (E : List Ent) (k : Nat) : List Bk := (List.range k).map fun i => sectP (pageXs seq (needN E.length) E i)
def pagesB (seq : Nat) (E : List Ent) : List Bk := pagesTo seq E (needN E.length)
def EntOk (x : Ent) : Prop := x.b ≤ 4095 ∧ x.s ≤ 1023 ∧ x.m ≤ 4294967295
theorem part_le (E : List Ent) (k : Nat) : (partE E k).length ≤ 4 := by simp [partE]; omega
theorem pad_len {l : List Ent} (h : l.length ≤ 4) : (padE l).length = 4 := by simp [padE]; omega
theorem flatN_len (L : List Ent) : (L.flatMap entN).length = L.length * 4 := by
  induction L with
  | nil => rfl
  | cons x L ih => rw [List.flatMap_cons, List.length_append, ih, List.length_cons, show (entN x).length = 4 from rfl]; omega
theorem pageXs_len (seq need : Nat) (E : List Ent) (k : Nat) : (pageXs seq need E k).length = 20 := by
  have h := pad_len (part_le E k)
  have : ((padE (partE E k)).flatMap entN).length = 16 := by rw [flatN_len, h]
  simp [pageXs, natsI, pgN, this]
theorem rowI_page (seq no of many : Nat) (L : List Ent) {i : Nat} (hi : i < L.length) : rowI (natsI (pgN seq no of many L)) i = natsI (entN (L.getD i Ent.none)) := by
  have h : ∀ (L : List Ent) (i : Nat), i < L.length → ((natsI (L.flatMap entN)).drop (4 * i)).take 4 = natsI (entN (L.getD i Ent.none)) := by
    intro L
    induction L with
    | nil => intro i h; simp at h
    | cons x L ih =>
      intro i hi
      cases i with
      | zero => rfl
      | succ i =>
        have e : natsI ((x :: L).flatMap entN) = natsI (entN x) ++ natsI (L.flatMap entN) := by simp [natsI]
        rw [e, show 4 * (i + 1) = (natsI (entN x)).length + 4 * i by simp [natsI, entN]; omega, List.drop_length_add_append]
        simpa using ih i (by simpa using hi)
  rw [← h L i hi]
  simp only [rowI]
  rw [← List.drop_drop]
  rfl
theorem mayP_page {seq : Nat} {E : List Ent} (hs : seq ≤ 1099511627776) (hE : ∀ x ∈ E, EntOk x) (hn : needN E.length ≤ 256) {k : Nat} (hk : k < needN E.length) : mayP (pageXs seq (needN E.length) E k) = true := by
  have hp := part_le E k
  have hl := pad_len hp
  simp only [mayP, Bool.and_eq_true, decide_eq_true_eq]
  refine ⟨⟨?_, ?_⟩, ?_⟩
  · simp [withinB, bndP, pageXs, natsI, pgN, inB]
    omega
  · simp [pageXs, natsI, pgN]; omega
  · unfold entsB
    rw [List.all_eq_true]
    intro i hi
    have hi4 : i < 4 := by simpa using hi
    unfold entB
    have h3 : (pageXs seq (needN E.length) E k).getD 3 0 = ((partE E k).length : Int) := by simp [pageXs, natsI, pgN]
    rw [h3]
    unfold pageXs
    rw [rowI_page _ _ _ _ _ (by omega)]
    split
    · rename_i hlt
      have hlt' : i < (partE E k).length := by omega
      have e : (padE (partE E k)).getD i Ent.none = (partE E k)[i] := by
        simp [padE, List.getD_eq_getElem?_getD, List.getElem?_append_left hlt', hlt']
      rw [e]
      have hm : (partE E k)[i] ∈ E := List.mem_of_mem_drop (List.mem_of_mem_take (List.getElem_mem hlt'))
      obtain ⟨a1, a2, a3⟩ := hE _ hm
      generalize (partE E k)[i] = x at *
      simp [withinB, bndE, natsI, entN, inB]
      have : bitN x.d ≤ 1 := by unfold bitN; split <;> omega
      omega
    · rename_i hge
      have e : (padE (partE E k)).getD i Ent.none = Ent.none := by
        simp only [padE, List.getD_eq_getElem?_getD]
        rw [List.getElem?_append_right (by omega), List.getElem?_replicate]
        split <;> rfl
      rw [e]
      simp [natsI, entN, Ent.none, bitN]
theorem pagesTo_succ (seq : Nat) (E : List Ent) (k : Nat) : pagesTo seq E (k + 1) = pagesTo seq E k ++ [sectP (pageXs seq (needN E.length) E k)] := by simp [pagesTo, List.range_succ]
theorem pagesTo_len (seq : Nat) (E : List Ent) (k : Nat) : (pagesTo seq E k).length = k := by simp [pagesTo]
theorem pagesTo_64 (seq : Nat) (E : List Ent) (k : Nat) : All64 (pagesTo seq E k) := by
  intro x hx
  simp only [pagesTo, List.mem_map] at hx
  obtain ⟨i, -, rfl⟩ := hx
  exact sectP_len (pageXs_len _ _ _ _)
structure DRes where
  F : List Bk
  O : List (Nat × Bk)
  P : List Int
  cd : Int
def Out (S : Nat → Prop) (w : World) (b : Nat) (r : DRes) (e : Ending) (w' : World) : Prop := e = .returned (.int .i64 r.cd) ∧ Dv S w' b r.F r.O r.P ∧ Upd S w w'
def flushR (F : List Bk) (O : List (Nat × Bk)) (P : List Int) : DRes :=
  if fate P = 1 then ⟨F, O, P.tail, 21⟩ else if fate P = 0 then ⟨flushF F O, [], P.tail, 0⟩ else ⟨F, O, P.tail, 0⟩
def writeR (F : List Bk) (O : List (Nat × Bk)) (P : List Int) (s : Nat) (y : Bk) : DRes :=
  if fate P = 1 then ⟨F, O, P.tail, 20⟩ else if fate P = 0 then ⟨F, O ++ [(s, y)], P.tail, 0⟩ else ⟨F, O, P.tail, 0⟩
theorem hasC_in {n s : Nat} (h : s < n) : hasC n (s : Int) = 0 := if_neg (by omega)
theorem dflushR {S : Nat → Prop} {w : World} {b : Nat} {F : List Bk} {O : List (Nat × Bk)} {P : List Int} (h : Dv S w b F O P) (hn : ∀ j, w.heap.size ≤ j → S j) :
    Calls Tryz.prog 46 #[.pointer (some ⟨b, 0, none⟩)] w (Out S w b (flushR F O P)) :=
  (dflush h hn).mono fun e w' h => by
    rcases h with ⟨h1, rfl, hd, hu⟩ | ⟨h1, rfl, hd, hu⟩ | ⟨h1, h2, rfl, hd, hu⟩
    · rw [flushR, if_pos h1]; exact ⟨rfl, hd, hu⟩
    · rw [flushR, if_neg (by omega), if_pos h1]; exact ⟨rfl, hd, hu⟩
    · rw [flushR, if_neg h2, if_neg h1]; exact ⟨rfl, hd, hu⟩
theorem dwriteR {S : Nat → Prop} {w : World} {b : Nat} {F : List Bk} {O : List (Nat × Bk)} {P : List Int} (h : Dv S w b F O P) (hn : ∀ j, w.heap.size ≤ j → S j) (s : Nat) (hs : s < F.length) (x : Bk) (hx : x.length = 64) (hO : O.length < 65536) :
    Calls Tryz.prog 18 #[.pointer (some ⟨b, 0, none⟩), .int .i64 (s : Int), .agg (bkC x).toArray] w (Out S w b (writeR F O P s x)) :=
  (dwrite h hn s x hx hO).mono fun e w' h => by
    have h0 := hasC_in hs
    rcases h with ⟨h1, -⟩ | ⟨-, h1, rfl, hd, hu⟩ | ⟨-, h1, rfl, hd, hu⟩ | ⟨-, h1, h2, rfl, hd, hu⟩
    · exact absurd h0 h1
    · rw [writeR, if_pos h1]; exact ⟨rfl, hd, hu⟩
    · rw [writeR, if_neg (by omega), if_pos h1]; rw [Int.toNat_natCast] at hd; exact ⟨rfl, hd, hu⟩
    · rw [writeR, if_neg h2, if_neg h1]; exact ⟨rfl, hd, hu⟩
def ReadOut (S : Nat → Prop) (w : World) (b : Nat) (F : List Bk) (O : List (Nat × Bk)) (P : List Int) (s : Nat) (e : Ending) (w' : World) : Prop :=
  ∃ (y : Bk) (cd : Int), e = .returned (.tuple #[.agg (bkC y).toArray, .int .i64 cd]) ∧ y = (if fate P = 1 then zB else curB F O s) ∧ cd = (if fate P = 1 then 19 else 0) ∧ y.length = 64 ∧ Dv S w' b F O P.tail ∧ Upd S w w'
theorem dreadR {S : Nat → Prop} {w : World} {b : Nat} {F : List Bk} {O : List (Nat × Bk)} {P : List Int} (h : Dv S w b F O P) (hn : ∀ j, w.heap.size ≤ j → S j) (s : Nat) (hs : s < F.length) :
    Calls Tryz.prog 67 #[.pointer (some ⟨b, 0, none⟩), .int .i64 (s : Int)] w (ReadOut S w b F O P s) :=
  (dread h hn s).mono fun e w' h' => by
    have h0 := hasC_in hs
    rcases h' with ⟨h1, -⟩ | ⟨-, h1, rfl, hd, hu⟩ | ⟨-, h1, rfl, hd, hu⟩
    · exact absurd h0 h1
    · exact ⟨zB, 19, rfl, (if_pos h1).symm, (if_pos h1).symm, zB_len, hd, hu⟩
    · exact ⟨curB F O s, 0, rfl, (if_neg h1).symm, (if_neg h1).symm, curB_len h.good s, hd, hu⟩
theorem Dv.but {S : Nat → Prop} {w : World} {b : Nat} {F : List Bk} {O : List (Nat × Bk)} {P : List Int} (h : Dv S w b F O P) {q : Nat} (hq : w.heap.size ≤ q) : Dv (fun j => S j ∧ j ≠ q) w b F O P :=
  h.shrink (fun j hj hl => ⟨hj, by omega⟩)
end Go.Proofs.YtfhfbpmlnjdfoaaGreatDoor
