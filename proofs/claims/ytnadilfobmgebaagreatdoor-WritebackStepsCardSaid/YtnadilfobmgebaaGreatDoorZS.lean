/- How many dirty blocks are written back, call by call, and that what blocks read does not turn. -/
import Derived.Test.YtnadilfobmgebaaGreatDoorH35
namespace Go.Proofs.YtnadilfobmgebaaGreatDoor.writebackSteps
open Go Go.RowKit Go.ChangeShapes Go.WideShapes Go.ChangeAt Go.Proofs.YtnadilfobmgebaaGreatDoor
set_option maxRecDepth 100000 in
set_option maxHeartbeats 4000000 in
theorem walk (b s j : Int) (l : List Op15) (hi lo ba : Int) (v : Value) (w : World) (hv : Rd w 4 v l.length (ops15 l)) (nib : Nib w) (tur : Tur w) :
    Calls Tryz.prog 10 #[threeV b s j, v, polV hi lo ba] w fun e w' => e = .returned (.bool true) ∧ Below w.heap.size w w' := by
  obtain ⟨A, hA⟩ : ∃ A, A = w.heap.size := ⟨_, rfl⟩
  obtain ⟨w1, hw1⟩ : ∃ w1, w1 = (w.alloc (.cells #[.int .i64 b, .int .i64 s, .int .i64 j] 76)).alloc (.cells #[.int .i64 hi, .int .i64 lo, .int .i64 ba] 94) := ⟨_, rfl⟩
  have hb1 : Below w.heap.size w w1 := by rw [hw1]; exact ((Below.refl _ w).alloc (Nat.le_refl _) _).alloc (by simp) _
  have hz1 : w1.heap.size = A + 2 := by rw [hw1, hA]; simp
  have e0 : w1.heap[A]? = some (.cells #[.int .i64 b, .int .i64 s, .int .i64 j] 76 (0, 0)) := by
    rw [hw1, hA]
    exact (Below.heap_alloc _ _ _ (by simp)).trans (heap_alloc_last w _ rfl)
  have e1 : w1.heap[A + 1]? = some (.cells #[.int .i64 hi, .int .i64 lo, .int .i64 ba] 94 (0, 0)) := by rw [hw1, hA]; exact heap_alloc_last _ _ (by simp)
  have HF := Lib.hid (few15 b s j v l w1 (hv.below hb1))
  have HN := Lib.hid (And.intro nib (And.intro tur (And.intro hv hb1)))
  have HE := Lib.hid (And.intro e0 (And.intro e1 (And.intro hz1 hA)))
  have HW := Lib.hid hw1
  have r0 := range_of_block e0
  have r1 := range_of_block e1
  have s1 := cell_of_block e0 1
  have k0 := cell_of_block e1 0
  have k1 := cell_of_block e1 1
  have k2 := cell_of_block e1 2
  simp at s1 k0 k1 k2
  have hut := Tryz.underlying76
  have hsi := info76
  have hut1 := Tryz.underlying94
  have hsi1 := info94
  obtain ⟨vv, hvv⟩ : ∃ vv, vv = v := ⟨_, rfl⟩
  have HXY0 := Lib.hid trivial
  clear hv nib tur hb1 hz1 e0 e1 hw1
  go_enter Tryz.func10, Tryz.ntmps10
  go_upto_region 1 with fail
  rw [← HW.out, ← hA]
  clear hA
  go_wp2_with (first
    | (refine wpList_load_midW (by rfl) _ _ rfl _ _ rfl _ _ r0 hut rfl hsi ?_)
    | fail)
  refine HF.out.mono ?_
  rintro e w2 ⟨q, rfl, hq, hb2⟩
  have hu2 : Upd (fun _ => False) w1 w2 := Upd.of_below hb2
  replace r0 := hu2.range r0 (fun h => h)
  replace r1 := hu2.range r1 (fun h => h)
  replace s1 := hu2.cellv s1 (fun h => h)
  replace k0 := hu2.cellv k0 (fun h => h)
  replace k1 := hu2.cellv k1 (fun h => h)
  replace k2 := hu2.cellv k2 (fun h => h)
  have g1 := hu2.blockv HE.out.2.1
  have g0 := hu2.blockv HE.out.1
  have hB2 : Below w.heap.size w w2 := HN.out.2.2.2.trans (hb2.mono HN.out.2.2.2.size)
  have H2 := Lib.hid (And.intro hB2 (And.intro g0 (And.intro g1 (And.intro (HN.out.1.below hB2) (And.intro (HN.out.2.1.below hB2) (HN.out.2.2.1.below hB2))))))
  have HA := Lib.hid (awake15 w2 H2.out.2.2.2.1 H2.out.2.2.2.2.1)
  have HQ := Lib.hid hq
  clear hb2 hu2 hB2 hq HF g0 g1
  cases q with
  | false =>
    go_wp2_with fail
    refine HA.out.mono ?_
    rintro e w3 ⟨rfl, hb3⟩
    have H3 := Lib.hid (H2.out.1.trans (hb3.mono H2.out.1.size))
    clear hb3
    go_wp2
    go_ret
    exact ⟨rfl, H3.out⟩
  | true =>
    have H2 := Lib.hid (And.intro H2.out.1 (And.intro H2.out.2.1 H2.out.2.2.1))
    go_upto_region 3 with fail
    obtain ⟨hnn, hb, hs, hj, hl60⟩ := HQ.out.1 trivial
    obtain ⟨b, rfl⟩ := Int.eq_ofNat_of_zero_le (show 0 ≤ b by omega)
    obtain ⟨s, rfl⟩ := Int.eq_ofNat_of_zero_le (show 0 ≤ s by omega)
    obtain ⟨j, rfl⟩ := Int.eq_ofNat_of_zero_le (show 0 ≤ j by omega)
    have hB : (1 ≤ b ∧ b ≤ 12) ∧ (1 ≤ s ∧ s ≤ 8) ∧ (4 ≤ j ∧ j ≤ 12) := ⟨by omega, by omega, by omega⟩
    obtain ⟨n, hn⟩ : ∃ n, n = smN b s j := ⟨_, rfl⟩
    have HP := Lib.hid (played15 b s j hB.1 hB.2.1 hB.2.2 hi lo ba l hl60 hnn v w2 (HN.out.2.2.1.below H2.out.1) (HN.out.1.below H2.out.1) (HN.out.2.1.below H2.out.1))
    rw [← hn] at HP
    have hnb : n.bl = b ∧ n.sl = s ∧ n.bl * (n.pa + 2) ≤ 60 ∧ 4 ≤ n.jo ∧ n.jo ≤ 12 := by
      subst hn
      obtain ⟨⟨x1, x2⟩, ⟨x3, x4⟩, ⟨x5, x6⟩⟩ := hB
      have hpa2 : (s - 1) / 4 + 1 ≤ 2 := by omega
      have := Nat.mul_le_mul (show b ≤ 12 by omega) (show (s - 1) / 4 + 1 + 2 ≤ 4 by omega)
      exact ⟨rfl, rfl, by show b * ((s - 1) / 4 + 1 + 2) ≤ 60; omega, x5, x6⟩
    have hnum : Nums15 (playA n hi lo ba l).2 := playA_nums n hi lo ba l hnn
    have HB := Lib.hid (And.intro hB (And.intro hnb (And.intro hnum hl60)))
    clear HA HQ hnn hb hs hj hl60 hB hnb hnum hn
    go_wp2_with (first
      | (refine wpList_load_mid rfl _ _ rfl _ _ rfl _ _ r0 hut rfl hsi ?_)
      | (refine wpList_load_mid rfl _ _ rfl _ _ rfl _ _ r1 hut1 rfl hsi1 ?_)
      | fail)
    refine HP.out.mono ?_
    rintro e w4 ⟨c, p, own1, rfl, h1, hI1, hn1, hb4, ho1⟩
    obtain ⟨now, hnow⟩ : ∃ now, now = (playA n hi lo ba l).2 := ⟨_, rfl⟩
    obtain ⟨a, ha⟩ : ∃ a, a = (playA n hi lo ba l).1 := ⟨_, rfl⟩
    have hnum := HB.out.2.2.1
    rw [← hnow] at hI1 hn1 hnum ⊢
    rw [← ha] at h1 hI1
    obtain ⟨NL, hNL⟩ : ∃ NL, NL = now.map (Value.int .i64) := ⟨_, rfl⟩
    have hNL12 : NL.length = 12 := by rw [hNL, List.length_map, hn1]
    have hone : ∀ v ∈ NL, v.oneCell' = true := by rw [hNL]; exact intsC_one now
    rw [← hNL]
    obtain ⟨w5, hw5⟩ : ∃ w5, w5 = w4.alloc (.cells NL.toArray 64) := ⟨_, rfl⟩
    have hu5 : Upd (fun _ => False) w4 w5 := by rw [hw5]; exact (Upd.refl _ w4).alloc _
    obtain ⟨nb, hnb⟩ : ∃ nb, nb = w4.heap.size := ⟨_, rfl⟩
    have g5 : w5.heap[nb]? = some (.cells NL.toArray 64 (0, 0)) := by rw [hw5, hnb]; exact heap_alloc_last w4 _ rfl
    have hU : Upd (fun _ => False) w2 w5 := (Upd.of_below hb4).trans hu5
    have L0 : LwAt w A b s j 94 #[.int .i64 hi, .int .i64 lo, .int .i64 ba] now nb c n p own1 w5 a :=
      ⟨h1.new hu5, HE.out.2.2.2, fun i hi => ho1 i (Nat.lt_of_lt_of_le hi (lt_of_block H2.out.2.2)), h1.far _ (by omega), below_upd H2.out.1 hU (Nat.le_refl _) (fun _ h => h.elim), hU.blockv H2.out.2.1, hU.blockv H2.out.2.2, by rw [g5, hNL]⟩
    have HL := Lib.hid (And.intro hNL (And.intro hNL12 (And.intro hone hnum)))
    have HL0 := Lib.hid (And.intro L0 (And.intro hI1 (And.intro h1.nx1 HB.out.2.2.2)))
    have hsi6 : (Tryz.prog.info? 64).map (·.size) = some NL.length := by rw [hNL12]; exact info64
    have hut6 := Tryz.underlying64
    have HW5 := Lib.hid (And.intro hw5 hnb)
    clear h1 hI1 hn1 hnum hb4 ho1 hnow ha hNL hNL12 hone hw5 hu5 hU hnb g5 L0 HP r0 r1 s1 k0 k1 k2
    go_upto_region 4 with (first
      | (refine wpList_store_new rfl _ _ _ rfl _ _ NL rfl rfl (by rw [HL.out.2.1]; rfl) hsi6 HL.out.2.2.1 ?_)
      | fail)
    rw [← HW5.out.1, ← HW5.out.2]
    clear HW5
    have hb12 : n.bl ≤ 12 := by rw [HB.out.2.1.1]; exact HB.out.1.1.2
    have HRd := Lib.hid (reads15 HL0.out.1.ca HL0.out.2.1.val HL0.out.2.1.nop HL.out.2.2.2 hb12)
    rw [HB.out.2.1.1, ← HL.out.1] at HRd
    have s0 := HL0.out.1.k0
    have hr2 := HL0.out.1.r2
    rw [← HL.out.1] at hr2
    go_wp2_with (first
      | (refine wpList_load_midW (by rfl) _ _ rfl _ _ rfl _ _ hr2 hut6 rfl hsi6 ?_)
      | fail)
    refine HRd.out.mono ?_
    rintro e w6 ⟨rfl, own6, h6, d6⟩
    have L6 := Lib.hid (HL0.out.1.did h6 d6)
    have HDt := Lib.hid (wb_dirty L6.out.ca)
    clear h6 d6 HRd s0 hr2
    go_wp2_with fail
    refine HDt.out.mono ?_
    rintro e w7 ⟨v7, rfl, hs7, hf7, hb7⟩
    obtain ⟨XL, hXL⟩ : ∃ XL, XL = (dirtL a.ps).map Int.ofNat := ⟨_, rfl⟩
    rw [← hXL] at hs7
    obtain ⟨av7, cv7, rfl⟩ := hs7.rd.nil_iff
    have L7 := Lib.hid (And.intro (L6.out.below hb7) (And.intro (LsAt.made hs7 hf7 L6.out.ca.far) hXL))
    have hXl : XL.length ≤ 12 := by
      rw [hXL, List.length_map]
      have h1 := dirtL_len a.ps
      rw [L6.out.ca.pl] at h1
      omega
    have hXn : ∀ k, k < b → (plc a.ps k = (-1, false) ∧ getC a.ps (k : Int) ≠ 0) ∨ ∃ y q, plc a.ps k = (y, q) ∧ getC a.ps (k : Int) = 0 ∧ getV a.ps (k : Int) = (y, q) := fun k hk => by
      have hk' : k < a.ps.length := by rw [L6.out.ca.pl, HB.out.2.1.1]; exact hk
      by_cases hn : plc a.ps k = (-1, false)
      · refine .inl ⟨hn, fun e => ?_⟩
        obtain ⟨m, -, hm2, hm3⟩ := getC_iff.1 e
        exact hm3 (by rw [← Int.ofNat.inj hm2]; exact hn)
      · exact .inr ⟨_, _, rfl, getC_iff.2 ⟨k, hk', rfl, hn⟩, getV_at hk' hn⟩
    have HX := Lib.hid hXn
    clear hs7 hf7 hb7 HDt hb12 hXL hXn
    go_wp2_with fail
    go_loopg [12] XL.length (fun g i wr => ∃ k : Nat, k + g = XL.length ∧ i = .int .i64 (k : Int) ∧ ∃ own', LwAt w A b s j 94 #[.int .i64 hi, .int .i64 lo, .int .i64 ba] now nb c n p own' wr a ∧ LsAt own' wr (.slice av7 XL.length cv7) XL)
    case atStart => exact ⟨0, by omega, rfl, _, L7.out.1, L7.out.2.1⟩
    case round =>
      obtain ⟨k, hk, rfl, own2, hL, hS⟩ := hrel
      by_cases hlt : k < XL.length
      · obtain ⟨bl, off, cap', hv, hc⟩ := hS.at hlt
        cases hv
        have q1 : (k : Int) < (XL.length : Int) := by omega
        have hlD : k < (dirtL a.ps).length := by have := L7.out.2.2; rw [this, List.length_map] at hlt; exact hlt
        have hxk : XL[k] = (((dirtL a.ps)[k] : Nat) : Int) := by simp only [L7.out.2.2, List.getElem_map]; rfl
        have hmem := dirtL_mem.1 (List.getElem_mem hlD)
        have hPl := ca_place hL.ca XL[k]
        obtain ⟨y, hy⟩ : ∃ y, getC a.ps XL[k] = 0 ∧ getV a.ps XL[k] = (y, true) := by
          rw [hxk]
          rcases HX.out _ (by have := hmem.1; rw [hL.ca.pl, HB.out.2.1.1] at this; exact this) with ⟨e, -⟩ | ⟨y, q, e1, e2, e3⟩
          · have := hmem.2; rw [e] at this; cases this
          · have := hmem.2; rw [e1] at this; dsimp only at this; subst this; exact ⟨y, e2, e3⟩
        rw [hy.1, hy.2] at hPl
        have HPl := Lib.hid hPl
        have HLr := Lib.hid (And.intro hL hS)
        rcases Nat.eq_zero_or_pos k with hk0 | hk0
        · subst hk0
          simp only [Nat.add_zero] at hc
          clear hPl hy hL hS hxk hlD hmem
          go_wp2_with fail
          refine HPl.out.mono ?_
          rintro e w8 ⟨rfl, own8, h8, d8⟩
          obtain ⟨w9, hw9⟩ : ∃ w9, w9 = w8.alloc (.cells #[.int .i64 y, .bool true] 108) := ⟨_, rfl⟩
          have hu9 : Upd (fun _ => False) w8 w9 := by rw [hw9]; exact (Upd.refl _ w8).alloc _
          obtain ⟨m, hm⟩ : ∃ m, m = w8.heap.size := ⟨_, rfl⟩
          have g9 : w9.heap[m]? = some (.cells #[.int .i64 y, .bool true] 108 (0, 0)) := by rw [hw9, hm]; exact heap_alloc_last w8 _ rfl
          have m1 := cell_of_block g9 1
          simp at m1
          have hL9 := (HLr.out.1.did h8 d8).new hu9
          have hS9 := (HLr.out.2.did d8).below hu9
          have c9 : w9.cell? ⟨m, 1, none⟩ = some (.bool true) := m1
          have H9 := Lib.hid (And.intro hL9.drew (hS9.below ((Upd.refl _ w9).drew)))
          have HW9 := Lib.hid (And.intro hw9 hm)
          clear h8 d8 hu9 g9 hL9 hS9 hw9 hm HPl hc m1
          go_upto_region 11 with fail
          rw [← HW9.out.1, ← HW9.out.2]
          refine wp_region_held_drew (S := fun W => W.cell? ⟨m, 1, none⟩ = some (.bool true)) (by kernel_rfl) (by rw [World.cell?_drew]; exact c9) (fun hHeld => ?_)
          refine Wl.i [0, 1, 2, 3, 4, 5] ?_; iterate 6 refine Wl.t hHeld ?_
          refine Wl.o ?_
          refine Wl.r 6 (fun K hK => ?_)
          go_simp
          refine hK.out _ _ (hHeld) (fun hH1 => ?_)
          clear hK K
          refine Wl.i [7, 8, 9, 10, 11, 12, 13, 14, 15, 16, 17, 18, 19, 20] ?_; iterate 14 refine Wl.t hH1 ?_
          refine Wl.o ?_
          refine Wl.r 21 (fun K hK => ?_)
          go_simp
          refine hK.out _ _ (hH1) (fun hH2 => ?_)
          clear hK K
          refine Wl.r 22 (fun K hK => ?_)
          go_simp
          refine hK.out _ _ (hH2) (fun hH3 => ?_)
          clear hK K
          refine Wl.d ?_
          clear hHeld c9
          go_wp2
          go_roundg (gk - 1)
          case measure => omega
          case rel => exact ⟨1, by omega, by go_num, _, H9.out.1, H9.out.2⟩
        · obtain ⟨k', rfl⟩ : ∃ k', k = k' + 1 := ⟨k - 1, by omega⟩
          obtain ⟨bl', off', cap', hv', hc'⟩ := hS.at (k := k') (Nat.lt_of_succ_lt hlt)
          cases hv'
          have hxk' : XL[k'] = (((dirtL a.ps)[k'] : Nat) : Int) := by simp only [L7.out.2.2, List.getElem_map]; rfl
          have hris : ¬ (XL[k' + 1] ≤ XL[k']) := by rw [hxk, hxk']; have := dirtL_rise (Nat.lt_add_one k') hlD; omega
          generalize XL[k' + 1] = z1 at *
          generalize XL[k'] = z0 at *
          clear hPl hy hL hS hxk hxk' hlD hmem
          go_wp2_with fail
          refine HPl.out.mono ?_
          rintro e w8 ⟨rfl, own8, h8, d8⟩
          obtain ⟨w9, hw9⟩ : ∃ w9, w9 = w8.alloc (.cells #[.int .i64 y, .bool true] 108) := ⟨_, rfl⟩
          have hu9 : Upd (fun _ => False) w8 w9 := by rw [hw9]; exact (Upd.refl _ w8).alloc _
          obtain ⟨m, hm⟩ : ∃ m, m = w8.heap.size := ⟨_, rfl⟩
          have g9 : w9.heap[m]? = some (.cells #[.int .i64 y, .bool true] 108 (0, 0)) := by rw [hw9, hm]; exact heap_alloc_last w8 _ rfl
          have m1 := cell_of_block g9 1
          simp at m1
          have hL9 := (HLr.out.1.did h8 d8).new hu9
          have hS9 := (HLr.out.2.did d8).below hu9
          have c9 : w9.cell? ⟨m, 1, none⟩ = some (.bool true) := m1
          have hUU : Upd (fun j => own2 j ≠ 0 ∧ own2 j < 16) wr w9 := d8.upd.trans (hu9.mono (fun _ _ h => h.elim))
          have hz := (HLr.out.2.z bl rfl).2
          have i1 := hUU.cellv hc (fun h => h.1 hz)
          have i2 := hUU.cellv hc' (fun h => h.1 hz)
          have H9 := Lib.hid (And.intro hL9.drew (hS9.below ((Upd.refl _ w9).drew)))
          have HW9 := Lib.hid (And.intro hw9 hm)
          have q3 : (0 : Int) < ((k' : Int) + 1) := by omega
          have q6 : (0 : Int) ≤ (k' : Int) + 1 := by omega
          have q4 : IntKind.i64.wrap (k' : Int) = (k' : Int) := IntWalk.i64_in _ (by omega)
          have q7 : (k' : Int) < (XL.length : Int) := by omega
          have q8 : (0 : Int) ≤ (k' : Int) := by omega
          have q5 : decide (z1 ≤ z0) = false := by simpa using hris
          clear h8 d8 hu9 g9 hL9 hS9 hw9 hm HPl hc hc' hUU hz hris m1
          go_upto_region 11 with fail
          rw [← HW9.out.1, ← HW9.out.2]
          refine wp_region_held_drew (S := fun W => W.cell? ⟨m, 1, none⟩ = some (.bool true) ∧ W.cell? ⟨bl, off + (k' + 1), none⟩ = some (.int .i64 z1) ∧ W.cell? ⟨bl, off + k', none⟩ = some (.int .i64 z0)) (by kernel_rfl) (⟨by rw [World.cell?_drew]; exact c9, by rw [World.cell?_drew]; exact i1, by rw [World.cell?_drew]; exact i2⟩) (fun hHeld => ?_)
          refine Wl.i [0, 1, 2, 3, 4, 5] ?_; iterate 6 refine Wl.t hHeld ?_
          refine Wl.o ?_
          refine Wl.r 6 (fun K hK => ?_)
          go_simp
          refine hK.out _ _ (hHeld) (fun hH1 => ?_)
          clear hK K
          refine Wl.i [7, 8, 9, 10, 11, 12, 13, 14, 15, 16, 17, 18, 19, 20] ?_; iterate 14 refine Wl.t hH1 ?_
          refine Wl.o ?_
          refine Wl.r 21 (fun K hK => ?_)
          go_simp
          refine hK.out _ _ (hH1) (fun hH2 => ?_)
          clear hK K
          refine Wl.r 22 (fun K hK => ?_)
          go_simp
          refine hK.out _ _ (hH2) (fun hH3 => ?_)
          clear hK K
          refine Wl.d ?_
          clear hHeld c9 i1 i2
          go_wp2
          go_roundg (gk - 1)
          case measure => omega
          case rel => exact ⟨k' + 1 + 1, by omega, by go_num, _, H9.out.1, H9.out.2⟩
      · obtain rfl : k = XL.length := by omega
        have q1 : ¬ ((XL.length : Int) < (XL.length : Int)) := by omega
        have L8 := Lib.hid hL
        clear hL hS hlt hk
        go_wp2_with fail
        go_loopg [15, 16] b (fun g nn i wr => ∃ k : Nat, k + g = b ∧ i = .int .i64 (k : Int) ∧ nn = .int .i64 (((List.range k).filter fun k => (plc a.ps k).2).length : Int) ∧ ∃ own', LwAt w A b s j 94 #[.int .i64 hi, .int .i64 lo, .int .i64 ba] now nb c n p own' wr a)
        case atStart => exact ⟨0, by omega, rfl, rfl, _, L8.out⟩
        case round =>
          obtain ⟨k, hk, rfl, rfl, own3, hL⟩ := hrel
          have s0 := hL.k0
          have hcl : ((List.range k).filter fun k => (plc a.ps k).2).length ≤ k := by have := List.length_filter_le (fun k => (plc a.ps k).2) (List.range k); rwa [List.length_range] at this
          have hcs : (List.range (k + 1)).filter (fun k => (plc a.ps k).2) = (List.range k).filter (fun k => (plc a.ps k).2) ++ if (plc a.ps k).2 then [k] else [] := by
            rw [List.range_succ, List.filter_append, List.filter_cons]
            rfl
          by_cases hlt : k < b
          · have q1 : (k : Int) < (b : Int) := by omega
            have q2 : k < 12 := by have := HB.out.1.1.2; omega
            have HPl := Lib.hid (ca_place hL.ca (k : Int))
            have HLr := Lib.hid hL
            have hdd : ∃ (y : Int) (q r : Bool), getV a.ps (k : Int) = (y, q) ∧ (getC a.ps (k : Int) == 0) = r ∧ ((plc a.ps k).2 = (r && q)) := by
              rcases HX.out k hlt with ⟨e1, e2⟩ | ⟨y, q, e1, e2, e3⟩
              · exact ⟨_, _, false, rfl, by simpa using e2, by rw [e1]; rfl⟩
              · exact ⟨y, q, true, e3, by rw [e2]; rfl, by rw [e1]; rfl⟩
            obtain ⟨y, q, r, e1, e2, e3⟩ := hdd
            rw [e1, e2] at HPl
            rw [e3] at hcs
            have HCs := Lib.hid hcs
            generalize hCC : ((List.range k).filter fun k => (plc a.ps k).2).length = C at *
            have HC := Lib.hid hCC
            clear e1 e2 e3 hL hcs hCC hlt
            go_wp2_with fail
            refine HPl.out.mono ?_
            rintro e w8 ⟨rfl, own8, h8, d8⟩
            have L9 := Lib.hid (HLr.out.did h8 d8)
            obtain ⟨w9, hw9⟩ : ∃ w9, w9 = w8.alloc (.cells #[.int .i64 y, .bool q] 108) := ⟨_, rfl⟩
            have hu9 : Upd (fun _ => False) w8 w9 := by rw [hw9]; exact (Upd.refl _ w8).alloc _
            obtain ⟨m, hm⟩ : ∃ m, m = w8.heap.size := ⟨_, rfl⟩
            have g9 : w9.heap[m]? = some (.cells #[.int .i64 y, .bool q] 108 (0, 0)) := by rw [hw9, hm]; exact heap_alloc_last w8 _ rfl
            have m1 := cell_of_block g9 1
            simp at m1
            have L9 := Lib.hid (L9.out.new hu9)
            have HW9 := Lib.hid (And.intro hw9 hm)
            clear h8 d8 HPl hu9 g9 hw9 hm
            go_upto_region 18 with fail
            rw [← HW9.out.1, ← HW9.out.2]
            cases r <;> cases q
            all_goals
              go_wp2
              go_roundg (gk - 1)
              case measure => omega
              case rel => exact ⟨k + 1, by omega, by go_num, by rw [HCs.out, List.length_append, HC.out]; first | rfl | go_num, _, L9.out⟩
          · obtain rfl : b = k := by omega
            have q1 : ¬ ((b : Int) < (b : Int)) := by omega
            have hXk : ((List.range b).filter fun k => (plc a.ps k).2).length = XL.length := by
              rw [L7.out.2.2, List.length_map]
              unfold dirtL
              rw [hL.ca.pl, HB.out.2.1.1]
            rw [hXk]
            have k0 := hL.q0 (x := .int .i64 hi) rfl
            have k1 := hL.q1 (x := .int .i64 lo) rfl
            have k2 := hL.q2 (x := .int .i64 ba) rfl
            have s1 := hL.k1
            have r1 := hL.r1
            have HRf := Lib.hid (ref_right hi lo ba (s : Int) wr)
            have hLu : ∀ X, Below wr.heap.size wr X → LwAt w A b s j 94 #[.int .i64 hi, .int .i64 lo, .int .i64 ba] now nb c n p own3 X a := fun X hb => hL.below hb
            have HLu := Lib.hid hLu
            have HCk := Lib.hid (wb_check hi lo ba (s : Int) wr)
            have qe : ((XL.length : Int) == (XL.length : Int)) = true := by simp
            clear hL hlt hk hcl hcs hXk hLu L8
            go_wp2_with fail
            refine HRf.out.mono ?_
            rintro e w9 ⟨rfl, hw9⟩
            subst hw9
            clear HRf
            go_wp2_with (first
              | (refine wpList_load_midW (by rfl) _ _ rfl _ _ rfl _ _ r1 hut1 rfl hsi1 ?_)
              | fail)
            refine HCk.out.mono ?_
            rintro e w10 ⟨rfl, hb10⟩
            have L10 := Lib.hid (HLu.out _ hb10)
            clear hb10 HCk HLu
            have s1 := L10.out.k1
            have r1 := L10.out.r1
            by_cases hR : rightP hi lo ba s
            · have e1 : decide (rightP hi lo ba s) = true := by simpa using hR
              have e2 : chkP hi lo ba s = 0 := if_pos hR
              rw [e1, e2]
              have HA := Lib.hid (awake15 w10 (HN.out.1.below L10.out.be) (HN.out.2.1.below L10.out.be))
              have HBB := Lib.hid L10.out.be
              clear e1 e2 hR
              go_wp2_with fail
              refine HA.out.mono ?_
              rintro e w13 ⟨rfl, hb13⟩
              have H13 := Lib.hid (HBB.out.trans (hb13.mono HBB.out.size))
              clear hb13
              go_wp2
              go_ret
              exact ⟨rfl, H13.out⟩
            · have e1 : decide (rightP hi lo ba s) = false := by simpa using hR
              have e2 : chkP hi lo ba s = 1 := if_neg hR
              rw [e1, e2]
              have HCk := Lib.hid (wb_check hi lo ba (s : Int) w10)
              rw [e2] at HCk
              clear e1 e2 hR
              go_wp2_with (first
                | (refine wpList_load_midW (by rfl) _ _ rfl _ _ rfl _ _ r1 hut1 rfl hsi1 ?_)
                | fail)
              refine HCk.out.mono ?_
              rintro e w11 ⟨rfl, hb11⟩
              have L11 := Lib.hid (L10.out.below hb11)
              have HA := Lib.hid (awake15 w11 (HN.out.1.below L11.out.be) (HN.out.2.1.below L11.out.be))
              have HBB := Lib.hid L11.out.be
              clear hb11 HCk
              go_wp2_with fail
              refine HA.out.mono ?_
              rintro e w13 ⟨rfl, hb13⟩
              have H13 := Lib.hid (HBB.out.trans (hb13.mono HBB.out.size))
              clear hb13
              go_wp2
              go_ret
              exact ⟨rfl, H13.out⟩
end Go.Proofs.YtnadilfobmgebaaGreatDoor.writebackSteps
