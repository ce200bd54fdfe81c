/- Two Steps are one of both numbers together: the same blocks are dirty then. -/
import Derived.Test.YtnadilfobmgebaaGreatDoorH34
namespace Go.Proofs.YtnadilfobmgebaaGreatDoor.writebackParts
open Go Go.RowKit Go.ChangeShapes Go.WideShapes Go.ChangeAt Go.Proofs.YtnadilfobmgebaaGreatDoor
set_option maxRecDepth 100000 in
set_option maxHeartbeats 4000000 in
theorem walk (b s j : Int) (l : List Op15) (x y : Int) (v : Value) (w : World) (hv : Rd w 4 v l.length (ops15 l)) (nib : Nib w) (tur : Tur w) :
    Calls Tryz.prog 8 #[threeV b s j, v, .agg #[.int .i64 x, .int .i64 y]] w fun e w' => e = .returned (.bool true) ∧ Below w.heap.size w w' := by
  obtain ⟨A, hA⟩ : ∃ A, A = w.heap.size := ⟨_, rfl⟩
  obtain ⟨w1, hw1⟩ : ∃ w1, w1 = (w.alloc (.cells #[.int .i64 b, .int .i64 s, .int .i64 j] 76)).alloc (.cells #[.int .i64 x, .int .i64 y] 91) := ⟨_, rfl⟩
  have hb1 : Below w.heap.size w w1 := by rw [hw1]; exact ((Below.refl _ w).alloc (Nat.le_refl _) _).alloc (by simp) _
  have hz1 : w1.heap.size = A + 2 := by rw [hw1, hA]; simp
  have e0 : w1.heap[A]? = some (.cells #[.int .i64 b, .int .i64 s, .int .i64 j] 76 (0, 0)) := by
    rw [hw1, hA]
    exact (Below.heap_alloc _ _ _ (by simp)).trans (heap_alloc_last w _ rfl)
  have e1 : w1.heap[A + 1]? = some (.cells #[.int .i64 x, .int .i64 y] 91 (0, 0)) := by rw [hw1, hA]; exact heap_alloc_last _ _ (by simp)
  have HF := Lib.hid (few15 b s j v l w1 (hv.below hb1))
  have HN := Lib.hid (And.intro nib (And.intro tur (And.intro hv hb1)))
  have HE := Lib.hid (And.intro e0 (And.intro e1 (And.intro hz1 hA)))
  have HW := Lib.hid hw1
  have r0 := range_of_block e0
  have k0 := cell_of_block e1 0
  have k1 := cell_of_block e1 1
  simp at k0 k1
  have hut := Tryz.underlying76
  have hsi := info76
  obtain ⟨vv, hvv⟩ : ∃ vv, vv = v := ⟨_, rfl⟩
  clear hv nib tur hb1 hz1 e0 e1 hw1
  go_enter Tryz.func8, Tryz.ntmps8
  go_upto_region 1 with fail
  rw [← HW.out, ← hA]
  clear hA
  go_wp2_with (first
    | (refine wpList_load_midW (by rfl) _ _ rfl _ _ rfl _ _ r0 hut rfl hsi ?_)
    | fail)
  refine HF.out.mono ?_
  rintro e w2 ⟨q, rfl, hq, hb2⟩
  have hu2 : Upd (fun _ => False) w1 w2 := Upd.of_below hb2
  replace r0 := hu2.range r0 (fun h => h)
  replace k0 := hu2.cellv k0 (fun h => h)
  replace k1 := hu2.cellv k1 (fun h => h)
  have hB2 : Below w.heap.size w w2 := HN.out.2.2.2.trans (hb2.mono HN.out.2.2.2.size)
  have H2 := Lib.hid (And.intro hB2 (And.intro hu2 (And.intro (HN.out.1.below hB2) (And.intro (HN.out.2.1.below hB2) (HN.out.2.2.1.below hB2)))))
  have HA := Lib.hid (awake15 w2 H2.out.2.2.1 H2.out.2.2.2.1)
  have HQ := Lib.hid hq
  clear hb2 hu2 hB2 hq HF
  cases q with
  | false =>
    go_wp2_with fail
    refine HA.out.mono ?_
    rintro e w3 ⟨rfl, hb3⟩
    have H3 := Lib.hid (H2.out.1.trans (hb3.mono H2.out.1.size))
    clear hb3
    go_wp2
    go_ret
    exact ⟨rfl, H3.out⟩
  | true =>
    by_cases hxy : (1 ≤ x ∧ 1 ≤ y) ∧ x ≤ 50 ∧ y ≤ 50
    rotate_left
    · have hxy' : x < 1 ∨ y < 1 ∨ 50 < x ∨ 50 < y := by omega
      clear hxy
      go_wp2_with fail
      all_goals
        refine HA.out.mono ?_
        rintro e w3 ⟨rfl, hb3⟩
        have H3 := Lib.hid (H2.out.1.trans (hb3.mono H2.out.1.size))
        clear hb3
        go_wp2
        go_ret
        exact ⟨rfl, H3.out⟩
    obtain ⟨⟨x1, y1⟩, x2, y2⟩ := hxy
    go_upto_region 3 with fail
    obtain ⟨hnn, hb, hs, hj, hl60⟩ := HQ.out.1 trivial
    obtain ⟨b, rfl⟩ := Int.eq_ofNat_of_zero_le (show 0 ≤ b by omega)
    obtain ⟨s, rfl⟩ := Int.eq_ofNat_of_zero_le (show 0 ≤ s by omega)
    obtain ⟨j, rfl⟩ := Int.eq_ofNat_of_zero_le (show 0 ≤ j by omega)
    obtain ⟨w3, hw3⟩ : ∃ w3, w3 = w2.alloc (.cells #[.int .i64 0, .int .i64 0, .int .i64 1] 94) := ⟨_, rfl⟩
    have hu3 : Upd (fun _ => False) w2 w3 := by rw [hw3]; exact (Upd.refl _ w2).alloc _
    have hb3 : Below w.heap.size w w3 := below_upd H2.out.1 hu3 (Nat.le_refl _) (fun _ h => h.elim)
    obtain ⟨pb, hpb⟩ : ∃ pb, pb = w2.heap.size := ⟨_, rfl⟩
    have g3 : w3.heap[pb]? = some (.cells #[.int .i64 0, .int .i64 0, .int .i64 1] 94 (0, 0)) := by rw [hw3, hpb]; exact heap_alloc_last w2 _ rfl
    have HP := Lib.hid (played15 b s j (by omega) (by omega) (by omega) 0 0 1 l hl60 hnn v w3 (HN.out.2.2.1.below hb3) (HN.out.1.below hb3) (HN.out.2.1.below hb3))
    have r3 := range_of_block g3
    replace r0 := hu3.range r0 (fun h => h)
    replace k0 := hu3.cellv k0 (fun h => h)
    replace k1 := hu3.cellv k1 (fun h => h)
    have HB := Lib.hid (And.intro hnn (And.intro hb (And.intro hs (And.intro hj hl60))))
    have HK := Lib.hid k0
    have HX := Lib.hid (And.intro x1 (And.intro y1 (And.intro x2 y2)))
    have H3 := Lib.hid (And.intro hb3 g3)
    have HW3 := Lib.hid (And.intro hw3 hpb)
    have hut4 := Tryz.underlying94
    have hsi4 := info94
    clear hb3 hu3 g3 hnn hb hs hj hl60 HA hw3 hpb H2 HQ
    go_upto_region 4 with fail
    rw [← HW3.out.1, ← HW3.out.2]
    go_wp2_with (first
      | (refine wpList_load_mid rfl _ _ rfl _ _ rfl _ _ r0 hut rfl hsi ?_)
      | (refine wpList_load_mid rfl _ _ rfl _ _ rfl _ _ r3 hut4 rfl hsi4 ?_)
      | fail)
    refine HP.out.mono ?_
    rintro e w4 ⟨c1, p1, own1, rfl, h1, hI1, hn1, hb4, ho1⟩
    obtain ⟨now, hnow⟩ : ∃ now, now = (playA (smN b s j) 0 0 1 l).2 := ⟨_, rfl⟩
    obtain ⟨a, ha⟩ : ∃ a, a = (playA (smN b s j) 0 0 1 l).1 := ⟨_, rfl⟩
    rw [← ha] at h1 hI1
    rw [← hnow] at hI1 hn1 ⊢
    obtain ⟨NL, hNL⟩ : ∃ NL, NL = now.map (Value.int .i64) := ⟨_, rfl⟩
    have hNL12 : NL.length = 12 := by rw [hNL, List.length_map, hn1]
    have hone : ∀ v ∈ NL, v.oneCell' = true := by rw [hNL]; exact intsC_one now
    rw [← hNL]
    obtain ⟨w5, hw5⟩ : ∃ w5, w5 = w4.alloc (.cells NL.toArray 64) := ⟨_, rfl⟩
    have hu5 : Upd (fun _ => False) w4 w5 := by rw [hw5]; exact (Upd.refl _ w4).alloc _
    have hU : Upd (fun _ => False) w3 w5 := (Upd.of_below hb4).trans hu5
    have hb5 : Below w.heap.size w w5 := below_upd H3.out.1 hU (Nat.le_refl _) (fun _ h => h.elim)
    have HP2 := Lib.hid (played15 b s j (by have := HB.out; omega) (by have := HB.out; omega) (by have := HB.out; omega) 0 0 1 l HB.out.2.2.2.2 HB.out.1 v w5 (HN.out.2.2.1.below hb5) (HN.out.1.below hb5) (HN.out.2.1.below hb5))
    replace r0 := hU.range r0 (fun h => h)
    replace r3 := hU.range r3 (fun h => h)
    replace k0 := hU.cellv k0 (fun h => h)
    replace k1 := hU.cellv k1 (fun h => h)
    have hz5 : w3.heap.size ≤ w5.heap.size := hU.size
    have HC1 := Lib.hid (And.intro (h1.new hu5) (And.intro hI1 (And.intro hn1 (And.intro hb5 (And.intro ho1 (And.intro ha (And.intro hnow hz5)))))))
    have HL := Lib.hid (And.intro hNL (And.intro hNL12 hone))
    have hsi6 : (Tryz.prog.info? 64).map (·.size) = some NL.length := by rw [hNL12]; exact info64
    have HW5 := Lib.hid hw5
    clear hz5 h1 hI1 hn1 hb4 ho1 hnow ha hNL hNL12 hone hw5 hu5 hU hb5 HP
    go_upto_region 5 with (first
      | (refine wpList_store_new rfl _ _ _ rfl _ _ NL rfl rfl (by rw [HL.out.2.1]; rfl) hsi6 HL.out.2.2 ?_)
      | fail)
    rw [← HW5.out]
    go_wp2_with (first
      | (refine wpList_load_mid rfl _ _ rfl _ _ rfl _ _ r0 hut rfl hsi ?_)
      | (refine wpList_load_mid rfl _ _ rfl _ _ rfl _ _ r3 hut4 rfl hsi4 ?_)
      | fail)
    refine HP2.out.mono ?_
    rintro e w6 ⟨c2, p2, own2, rfl, h2, hI2, hn2, hb6, ho2⟩
    rw [← HC1.out.2.2.2.2.2.1] at h2 hI2
    rw [← HC1.out.2.2.2.2.2.2.1, ← HL.out.1]
    obtain ⟨w7, hw7⟩ : ∃ w7, w7 = w6.alloc (.cells NL.toArray 64) := ⟨_, rfl⟩
    have hu7 : Upd (fun _ => False) w6 w7 := by rw [hw7]; exact (Upd.refl _ w6).alloc _
    have hU : Upd (fun _ => False) w5 w7 := (Upd.of_below hb6).trans hu7
    have hb7 : Below w.heap.size w w7 := below_upd HC1.out.2.2.2.1 hU (Nat.le_refl _) (fun _ h => h.elim)
    replace k0 := hU.cellv k0 (fun h => h)
    replace k1 := hU.cellv k1 (fun h => h)
    have hsep : ∀ i, own1 i ≠ 0 → own2 i = 0 := fun i hi => ho2 i (Nat.lt_of_not_le fun hle => hi (HC1.out.1.far i hle))
    have hz3 := H3.out.1.size
    have hnl : own1 0 = 0 ∧ own1 1 = 0 := ⟨HC1.out.2.2.2.2.1 _ (Nat.lt_of_lt_of_le HN.out.1.lt hz3), HC1.out.2.2.2.2.1 _ (Nat.lt_of_lt_of_le HN.out.2.1.lt hz3)⟩
    have hA0 : own1 (A + 1) = 0 ∧ own2 (A + 1) = 0 := by
      have h3 := lt_of_block H3.out.2
      have h4 : A + 1 < w3.heap.size := (addr_of_cell HK.out).2
      exact ⟨HC1.out.2.2.2.2.1 _ h4, ho2 _ (Nat.lt_of_lt_of_le h4 HC1.out.2.2.2.2.2.2.2)⟩
    have hB60 : 3 + l.length * 60 + 2 * ((smN b s j).bl * ((smN b s j).pa + 2)) ≤ 50000 := by
      obtain ⟨-, ⟨x1, x2⟩, ⟨x3, x4⟩, ⟨x5, x6⟩, x7⟩ := HB.out
      have hpa2 : (s - 1) / 4 + 1 ≤ 2 := by omega
      have := Nat.mul_le_mul (show b ≤ 12 by omega) (show (s - 1) / 4 + 1 + 2 ≤ 4 by omega)
      show 3 + l.length * 60 + 2 * (b * ((s - 1) / 4 + 1 + 2)) ≤ 50000
      omega
    obtain ⟨⟨a1, m1, cd1⟩, hR1⟩ : ∃ R, R = a.wstep (smN b s j) x := ⟨_, rfl⟩
    have hI1 := HC1.out.2.1
    have hS1 := hI1.step HC1.out.1.nx1 x
    rw [← hR1] at hS1
    obtain ⟨hIa1, -, hS1⟩ := hS1
    obtain ⟨e1, e2, e3⟩ := hS1 x1
    dsimp only at hIa1 e1 e2 e3
    subst e1
    have HS1 := Lib.hid (wb_step (HC1.out.1.new hU) hI1.fit (by omega) hI1.tie x)
    rw [← hR1] at HS1
    have HI := Lib.hid (And.intro hIa1 (And.intro e2 (And.intro e3 (And.intro hB60 (And.intro hsep (And.intro hnl hA0))))))
    have HC2 := Lib.hid (And.intro (h2.new hu7) (And.intro hI2 (And.intro hb7 (And.intro ho2 (fun i (hi : own2 i ≠ 0) => (show own1 i = 0 from HC1.out.1.far i (Nat.le_of_not_lt fun hlt => hi (ho2 i hlt))))))))
    have HW7 := Lib.hid hw7
    clear h2 hI2 hn2 hb6 ho2 hw7 hu7 hU hb7 hsep hz3 hnl hA0 hB60 hR1 hI1 hIa1 e2 e3 r0 r3 HP2
    go_upto_region 6 with (first
      | (refine wpList_store_new rfl _ _ _ rfl _ _ NL rfl rfl (by rw [HL.out.2.1]; rfl) hsi6 HL.out.2.2 ?_)
      | fail)
    rw [← HW7.out]
    go_wp2_with fail
    refine HS1.out.mono ?_
    try dsimp only
    rintro e w8 ⟨rfl, own3, h3, d3⟩
    obtain ⟨⟨a2, m2, cd2⟩, hR2⟩ : ∃ R, R = a1.wstep (smN b s j) y := ⟨_, rfl⟩
    have hS2 := HI.out.1.step h3.nx1 y
    rw [← hR2] at hS2
    obtain ⟨hIa2, -, hS2⟩ := hS2
    obtain ⟨e1, e2, e3⟩ := hS2 y1
    dsimp only at hIa2 e1 e2 e3
    subst e1
    have HS2 := Lib.hid (wb_step h3 HI.out.1.fit (by have := HI.out.2.2.2.1; omega) HI.out.1.tie y)
    rw [← hR2] at HS2
    have ho3 : own3 (A + 1) = 0 := (d3.old _ (addr_of_cell k0).2).trans HI.out.2.2.2.2.2.2.1
    replace k0 := d3.upd.cellv k0 (fun h => h.1 HI.out.2.2.2.2.2.2.1)
    replace k1 := d3.upd.cellv k1 (fun h => h.1 HI.out.2.2.2.2.2.2.1)
    have H3' := Lib.hid (And.intro d3 (And.intro hIa2 (And.intro e2 e3)))
    clear h3 d3 hR2 hIa2 e2 e3 HS1
    go_wp2_with fail
    refine HS2.out.mono ?_
    try dsimp only
    rintro e w9 ⟨rfl, own4, h4, d4⟩
    have d14 := H3'.out.1.trans d4
    have h5 := HC2.out.1.beside d14 HI.out.2.2.2.2.2.1 HI.out.2.2.2.2.1
    obtain ⟨⟨b1, m3, cd3⟩, hR3⟩ : ∃ R, R = a.wstep (smN b s j) (x + y) := ⟨_, rfl⟩
    have hS3 := HC2.out.2.1.step HC2.out.1.nx1 (x + y)
    rw [← hR3] at hS3
    obtain ⟨hIb, -, hS3⟩ := hS3
    obtain ⟨e1, e2, e3⟩ := hS3 (by omega)
    dsimp only at hIb e1 e2 e3
    subst e1
    have hm : m1 + m2 = m3 := by
      have f1 := HI.out.2.1
      have f2 := HI.out.2.2.1
      have f3 := H3'.out.2.2.1
      rw [f2, List.length_drop] at f3
      omega
    have hLL : dirtL b1.ps = dirtL a2.ps := by
      rw [e3, ← e2, H3'.out.2.2.2, ← H3'.out.2.2.1, HI.out.2.2.1, ← HI.out.2.1, List.drop_drop, hm]
    have hm13 : m3 ≤ 50000 := by have := HI.out.2.2.2.1; have f4 := dirtL_len a.ps; rw [HC1.out.1.pl] at f4; have f5 : (smN b s j).bl ≤ 12 := by (have := HB.out.2.1.2; show b ≤ 12; omega)
                                 omega
    have HS3 := Lib.hid (wb_step h5 HC2.out.2.1.fit (by have := HI.out.2.2.2.1; omega) HC2.out.2.1.tie (x + y))
    rw [← hR3] at HS3
    replace k0 := d4.upd.cellv k0 (fun h => h.1 ho3)
    replace k1 := d4.upd.cellv k1 (fun h => h.1 ho3)
    have H4 := Lib.hid (And.intro h4 (And.intro d14 (And.intro hIb (And.intro hLL hm))))
    clear h4 d4 d14 h5 hR3 hIb e2 e3 hLL HS2 ho3
    go_wp2_with fail
    refine HS3.out.mono ?_
    try dsimp only
    rintro e w10 ⟨rfl, own5, h5, d5⟩
    have hz7 : ∀ i, own2 i ≠ 0 → own4 i = 0 := fun i hi => (H4.out.2.1.old i (Nat.lt_of_not_le fun hle => hi (HC2.out.1.far i hle))).trans (HC2.out.2.2.2.2 i hi)
    have hn2 : own2 0 = 0 ∧ own2 1 = 0 := ⟨HC2.out.2.2.2.1 _ (Nat.lt_of_lt_of_le HN.out.1.lt HC1.out.2.2.2.1.size), HC2.out.2.2.2.1 _ (Nat.lt_of_lt_of_le HN.out.2.1.lt HC1.out.2.2.2.1.size)⟩
    have h6 := H4.out.1.beside d5 hn2 hz7
    have hB9 : Below w.heap.size w w9 := H4.out.2.1.below HC2.out.2.2.1 (fun i hi => HC1.out.2.2.2.2.1 i (Nat.lt_of_lt_of_le hi H3.out.1.size))
    have hB10 : Below w.heap.size w w10 := d5.below hB9 (fun i hi => HC2.out.2.2.2.1 i (Nat.lt_of_lt_of_le hi HC1.out.2.2.2.1.size))
    have HD1 := Lib.hid (wb_dirty h6)
    have H5 := Lib.hid (And.intro h5 hB10)
    clear h5 d5 hz7 hn2 h6 hB9 hB10 HS3
    go_wp2_with fail
    refine HD1.out.mono ?_
    rintro e w11 ⟨v1, rfl, hs1, -, hb11⟩
    have HD2 := Lib.hid (wb_dirty (H5.out.1.new (Upd.of_below hb11)))
    rw [H4.out.2.2.2.1] at HD2
    obtain ⟨XL, hXL⟩ : ∃ XL, XL = (dirtL a2.ps).map Int.ofNat := ⟨_, rfl⟩
    rw [← hXL] at hs1 HD2
    have hXl : XL.length ≤ 12 := by
      rw [hXL, List.length_map]
      have h1 := dirtL_len a2.ps
      rw [H4.out.1.pl] at h1
      have h2 : (smN b s j).bl ≤ 12 := HB.out.2.1.2 |> fun h => by show b ≤ 12; omega
      omega
    have H11 := Lib.hid (And.intro hs1.rd (H5.out.2.trans (hb11.mono H5.out.2.size)))
    obtain ⟨av1, cv1, rfl⟩ := hs1.rd.nil_iff
    clear hs1 hb11 hXL HD1
    go_wp2_with fail
    refine HD2.out.mono ?_
    rintro e w12 ⟨v2, rfl, hs2, -, hb12⟩
    have H12 := Lib.hid (And.intro (H11.out.1.below hb12) (And.intro hs2.rd (H11.out.2.trans (hb12.mono H11.out.2.size))))
    obtain ⟨av2, cv2, rfl⟩ := hs2.rd.nil_iff
    have qm : (m1 : Int) + (m2 : Int) = (m3 : Int) := by have := H4.out.2.2.2.2; omega
    clear hs2 hb12 HD2
    go_wp2_with fail
    go_loopg [24] XL.length (fun g i wr => ∃ k : Nat, k + g = XL.length ∧ i = .int .i64 (k : Int) ∧ Upd (fun _ => False) w12 wr)
    case atStart => exact ⟨0, by omega, rfl, Upd.refl _ _⟩
    case round =>
      obtain ⟨k, hk, rfl, hu⟩ := hrel
      by_cases hlt : k < XL.length
      · have hxk : (ints XL)[k]? = some (.int .i64 XL[k]) := by simp [ints, hlt]
        obtain ⟨bl1, of1, cp1, hv1, hl1, hc1⟩ := H12.out.1.at (by omega)
        obtain ⟨bl2, of2, cp2, hv2, hl2, hc2⟩ := H12.out.2.1.at (by omega)
        cases hv1
        cases hv2
        have i1 := hu.cellv (hc1 _ _ hxk) (fun h => h)
        have i2 := hu.cellv (hc2 _ _ hxk) (fun h => h)
        have q1 : (k : Int) < (XL.length : Int) := by omega
        have HU := Lib.hid hu
        clear hu hxk hl1 hl2 hc1 hc2
        generalize XL[k] = z at *
        clear hlt
        go_upto_region 18 with fail
        refine wp_region_held_drew (S := fun W => W.cell? ⟨bl1, of1 + k, none⟩ = some (.int .i64 z) ∧ W.cell? ⟨bl2, of2 + k, none⟩ = some (.int .i64 z)) (by kernel_rfl) (⟨by rw [World.cell?_drew]; exact i1, by rw [World.cell?_drew]; exact i2⟩) (fun hHeld => ?_)
        refine Wl.i [0, 1, 2, 3, 4, 5, 6, 7, 8] ?_; iterate 9 refine Wl.t hHeld ?_
        refine Wl.o ?_
        refine Wl.d ?_
        clear hHeld i1 i2
        go_wp2
        go_roundg (gk - 1)
        case measure => omega
        case rel => exact ⟨k + 1, by omega, by go_num, HU.out.trans ((Upd.refl (fun _ => False) wr).drew)⟩
      · obtain rfl : k = XL.length := by omega
        have q1 : ¬ ((XL.length : Int) < (XL.length : Int)) := by omega
        have hB : Below w.heap.size w wr := below_upd H12.out.2.2 hu (Nat.le_refl _) (fun _ h => h.elim)
        have HA := Lib.hid (awake15 wr (HN.out.1.below hB) (HN.out.2.1.below hB))
        have HBB := Lib.hid hB
        clear hu hB hlt hk
        go_wp2_with fail
        refine HA.out.mono ?_
        rintro e w13 ⟨rfl, hb13⟩
        have H13 := Lib.hid (HBB.out.trans (hb13.mono HBB.out.size))
        clear hb13
        go_wp2
        go_ret
        exact ⟨rfl, H13.out⟩
end Go.Proofs.YtnadilfobmgebaaGreatDoor.writebackParts
