/- Ticks by a policy come down to Low dirty blocks, and no further. -/
import Derived.Test.YtnadilfobmgebaaGreatDoorH35
namespace Go.Proofs.YtnadilfobmgebaaGreatDoor.writebackLow
open Go Go.RowKit Go.ChangeShapes Go.WideShapes Go.ChangeAt Go.Proofs.YtnadilfobmgebaaGreatDoor
set_option maxRecDepth 100000 in
set_option maxHeartbeats 4000000 in
theorem walk (b s j : Int) (l : List Op15) (hi lo ba : Int) (v : Value) (w : World) (hv : Rd w 4 v l.length (ops15 l)) (nib : Nib w) (tur : Tur w) :
    Calls Tryz.prog 9 #[threeV b s j, v, polV hi lo ba] w fun e w' => e = .returned (.bool true) ∧ Below w.heap.size w w' := by
  obtain ⟨A, hA⟩ : ∃ A, A = w.heap.size := ⟨_, rfl⟩
  obtain ⟨w1, hw1⟩ : ∃ w1, w1 = (w.alloc (.cells #[.int .i64 b, .int .i64 s, .int .i64 j] 76)).alloc (.cells #[.int .i64 hi, .int .i64 lo, .int .i64 ba] 94) := ⟨_, rfl⟩
  have hb1 : Below w.heap.size w w1 := by rw [hw1]; exact ((Below.refl _ w).alloc (Nat.le_refl _) _).alloc (by simp) _
  have hz1 : w1.heap.size = A + 2 := by rw [hw1, hA]; simp
  have e0 : w1.heap[A]? = some (.cells #[.int .i64 b, .int .i64 s, .int .i64 j] 76 (0, 0)) := by
    rw [hw1, hA]
    exact (Below.heap_alloc _ _ _ (by simp)).trans (heap_alloc_last w _ rfl)
  have e1 : w1.heap[A + 1]? = some (.cells #[.int .i64 hi, .int .i64 lo, .int .i64 ba] 94 (0, 0)) := by rw [hw1, hA]; exact heap_alloc_last _ _ (by simp)
  have HF := Lib.hid (few15 b s j v l w1 (hv.below hb1))
  have HN := Lib.hid (And.intro nib (And.intro tur (And.intro hv hb1)))
  have HE := Lib.hid (And.intro e0 (And.intro e1 (And.intro hz1 hA)))
  have HW := Lib.hid hw1
  have r0 := range_of_block e0
  have r1 := range_of_block e1
  have s1 := cell_of_block e0 1
  have k0 := cell_of_block e1 0
  have k1 := cell_of_block e1 1
  have k2 := cell_of_block e1 2
  simp at s1 k0 k1 k2
  have hut := Tryz.underlying76
  have hsi := info76
  have hut1 := Tryz.underlying94
  have hsi1 := info94
  obtain ⟨vv, hvv⟩ : ∃ vv, vv = v := ⟨_, rfl⟩
  have HXY0 := Lib.hid trivial
  clear hv nib tur hb1 hz1 e0 e1 hw1
  go_enter Tryz.func9, Tryz.ntmps9
  go_upto_region 1 with fail
  rw [← HW.out, ← hA]
  clear hA
  go_wp2_with (first
    | (refine wpList_load_midW (by rfl) _ _ rfl _ _ rfl _ _ r0 hut rfl hsi ?_)
    | fail)
  refine HF.out.mono ?_
  rintro e w2 ⟨q, rfl, hq, hb2⟩
  have hu2 : Upd (fun _ => False) w1 w2 := Upd.of_below hb2
  replace r0 := hu2.range r0 (fun h => h)
  replace r1 := hu2.range r1 (fun h => h)
  replace s1 := hu2.cellv s1 (fun h => h)
  replace k0 := hu2.cellv k0 (fun h => h)
  replace k1 := hu2.cellv k1 (fun h => h)
  replace k2 := hu2.cellv k2 (fun h => h)
  have g1 := hu2.blockv HE.out.2.1
  have g0 := hu2.blockv HE.out.1
  have hB2 : Below w.heap.size w w2 := HN.out.2.2.2.trans (hb2.mono HN.out.2.2.2.size)
  have H2 := Lib.hid (And.intro hB2 (And.intro g0 (And.intro g1 (And.intro (HN.out.1.below hB2) (And.intro (HN.out.2.1.below hB2) (HN.out.2.2.1.below hB2))))))
  have HA := Lib.hid (awake15 w2 H2.out.2.2.2.1 H2.out.2.2.2.2.1)
  have HQ := Lib.hid hq
  clear hb2 hu2 hB2 hq HF g0 g1
  cases q with
  | false =>
    go_wp2_with fail
    refine HA.out.mono ?_
    rintro e w3 ⟨rfl, hb3⟩
    have H3 := Lib.hid (H2.out.1.trans (hb3.mono H2.out.1.size))
    clear hb3
    go_wp2
    go_ret
    exact ⟨rfl, H3.out⟩
  | true =>
    have HCk := Lib.hid (wb_check hi lo ba s w2)
    go_wp2_with (first
      | (refine wpList_load_midW (by rfl) _ _ rfl _ _ rfl _ _ r1 hut1 rfl hsi1 ?_)
      | fail)
    refine HCk.out.mono ?_
    rintro e w3 ⟨rfl, hb3⟩
    have hu3 : Upd (fun _ => False) w2 w3 := Upd.of_below hb3
    replace r0 := hu3.range r0 (fun h => h)
    replace r1 := hu3.range r1 (fun h => h)
    replace s1 := hu3.cellv s1 (fun h => h)
    have hB3 : Below w.heap.size w w3 := H2.out.1.trans (hb3.mono H2.out.1.size)
    have H2 := Lib.hid (And.intro hB3 (And.intro (hu3.blockv H2.out.2.1) (hu3.blockv H2.out.2.2.1)))
    have HA := Lib.hid (awake15 w3 (HN.out.1.below hB3) (HN.out.2.1.below hB3))
    clear hb3 hu3 hB3 HCk k0 k1 k2
    generalize hck : chkP hi lo ba s = ck at *
    by_cases hc0 : ck = 0
    rotate_left
    · clear hck
      go_wp2_with fail
      refine HA.out.mono ?_
      rintro e w4 ⟨rfl, hb4⟩
      have H4 := Lib.hid (H2.out.1.trans (hb4.mono H2.out.1.size))
      clear hb4
      go_wp2
      go_ret
      exact ⟨rfl, H4.out⟩
    subst hc0
    have hrp : rightP hi lo ba s := by
      unfold chkP at hck
      split at hck
      · assumption
      · cases hck
    have HR := Lib.hid hrp
    clear hck hrp
    obtain ⟨w2, hw2⟩ : ∃ w2, w2 = w3 := ⟨_, rfl⟩
    subst hw2
    go_upto_region 3 with fail
    obtain ⟨hnn, hb, hs, hj, hl60⟩ := HQ.out.1 trivial
    obtain ⟨b, rfl⟩ := Int.eq_ofNat_of_zero_le (show 0 ≤ b by omega)
    obtain ⟨s, rfl⟩ := Int.eq_ofNat_of_zero_le (show 0 ≤ s by omega)
    obtain ⟨j, rfl⟩ := Int.eq_ofNat_of_zero_le (show 0 ≤ j by omega)
    have hB : (1 ≤ b ∧ b ≤ 12) ∧ (1 ≤ s ∧ s ≤ 8) ∧ (4 ≤ j ∧ j ≤ 12) := ⟨by omega, by omega, by omega⟩
    obtain ⟨n, hn⟩ : ∃ n, n = smN b s j := ⟨_, rfl⟩
    have HP := Lib.hid (played15 b s j hB.1 hB.2.1 hB.2.2 (s : Int) 0 1 l hl60 hnn v w2 (HN.out.2.2.1.below H2.out.1) (HN.out.1.below H2.out.1) (HN.out.2.1.below H2.out.1))
    rw [← hn] at HP
    have hnb : n.bl = b ∧ n.sl = s ∧ n.bl * (n.pa + 2) ≤ 60 ∧ 4 ≤ n.jo ∧ n.jo ≤ 12 := by
      subst hn
      obtain ⟨⟨x1, x2⟩, ⟨x3, x4⟩, ⟨x5, x6⟩⟩ := hB
      have hpa2 : (s - 1) / 4 + 1 ≤ 2 := by omega
      have := Nat.mul_le_mul (show b ≤ 12 by omega) (show (s - 1) / 4 + 1 + 2 ≤ 4 by omega)
      exact ⟨rfl, rfl, by show b * ((s - 1) / 4 + 1 + 2) ≤ 60; omega, x5, x6⟩
    have hnum : Nums15 (playA n (s : Int) 0 1 l).2 := playA_nums n (s : Int) 0 1 l hnn
    have HB := Lib.hid (And.intro hB (And.intro hnb (And.intro hnum hl60)))
    clear HA HQ hnn hb hs hj hl60 hB hnb hnum hn
    go_wp2_with (first
      | (refine wpList_load_mid rfl _ _ rfl _ _ rfl _ _ r0 hut rfl hsi ?_)
      | (refine wpList_load_mid rfl _ _ rfl _ _ rfl _ _ r1 hut1 rfl hsi1 ?_)
      | fail)
    refine HP.out.mono ?_
    rintro e w4 ⟨c, p, own1, rfl, h1, hI1, hn1, hb4, ho1⟩
    obtain ⟨now, hnow⟩ : ∃ now, now = (playA n (s : Int) 0 1 l).2 := ⟨_, rfl⟩
    obtain ⟨a, ha⟩ : ∃ a, a = (playA n (s : Int) 0 1 l).1 := ⟨_, rfl⟩
    have hnum := HB.out.2.2.1
    rw [← hnow] at hI1 hn1 hnum ⊢
    rw [← ha] at h1 hI1
    obtain ⟨NL, hNL⟩ : ∃ NL, NL = now.map (Value.int .i64) := ⟨_, rfl⟩
    have hNL12 : NL.length = 12 := by rw [hNL, List.length_map, hn1]
    have hone : ∀ v ∈ NL, v.oneCell' = true := by rw [hNL]; exact intsC_one now
    rw [← hNL]
    obtain ⟨w5, hw5⟩ : ∃ w5, w5 = w4.alloc (.cells NL.toArray 64) := ⟨_, rfl⟩
    have hu5 : Upd (fun _ => False) w4 w5 := by rw [hw5]; exact (Upd.refl _ w4).alloc _
    obtain ⟨nb, hnb⟩ : ∃ nb, nb = w4.heap.size := ⟨_, rfl⟩
    have g5 : w5.heap[nb]? = some (.cells NL.toArray 64 (0, 0)) := by rw [hw5, hnb]; exact heap_alloc_last w4 _ rfl
    have hU : Upd (fun _ => False) w2 w5 := (Upd.of_below hb4).trans hu5
    have L0 : LwAt w A b s j 94 #[.int .i64 hi, .int .i64 lo, .int .i64 ba] now nb c n p own1 w5 a :=
      ⟨h1.new hu5, HE.out.2.2.2, fun i hi => ho1 i (Nat.lt_of_lt_of_le hi (lt_of_block H2.out.2.2)), h1.far _ (by omega), below_upd H2.out.1 hU (Nat.le_refl _) (fun _ h => h.elim), hU.blockv H2.out.2.1, hU.blockv H2.out.2.2, by rw [g5, hNL]⟩
    have HL := Lib.hid (And.intro hNL (And.intro hNL12 (And.intro hone hnum)))
    have HL0 := Lib.hid (And.intro L0 (And.intro hI1 (And.intro h1.nx1 HB.out.2.2.2)))
    have hsi6 : (Tryz.prog.info? 64).map (·.size) = some NL.length := by rw [hNL12]; exact info64
    have hut6 := Tryz.underlying64
    have HW5 := Lib.hid (And.intro hw5 hnb)
    clear h1 hI1 hn1 hnum hb4 ho1 hnow ha hNL hNL12 hone hw5 hu5 hU hnb g5 L0 HP r0 r1 s1 
    go_upto_region 4 with (first
      | (refine wpList_store_new rfl _ _ _ rfl _ _ NL rfl rfl (by rw [HL.out.2.1]; rfl) hsi6 HL.out.2.2.1 ?_)
      | fail)
    rw [← HW5.out.1, ← HW5.out.2]
    clear HW5
    have HDt := Lib.hid (wb_dirty HL0.out.1.ca)
    go_wp2_with fail
    refine HDt.out.mono ?_
    rintro e w6 ⟨v6, rfl, hs6, -, hb6⟩
    rw [List.length_map] at hs6
    have L6 := Lib.hid (HL0.out.1.below hb6)
    obtain ⟨av6, cv6, rfl⟩ := hs6.rd.nil_iff
    clear hs6 hb6 HDt
    go_wp2_with fail
    go_loopg [11, 12] 20 (fun g dd i wr => ∃ k : Nat, k + g = 20 ∧ i = .int .i64 (k : Int) ∧ ∃ own' a', dd = .int .i64 ((dirtL a'.ps).length : Int) ∧ LwAt w A b s j 94 #[.int .i64 hi, .int .i64 lo, .int .i64 ba] now nb c n p own' wr a' ∧ Inv15 n a' (valsN now) (3 + l.length * 60 + k * 60) ∧ (((dirtL a'.ps).length : Int) ≤ hi ∨ (dirtL a'.ps).length + k ≤ 12))
    case atStart =>
      refine ⟨0, by omega, rfl, _, _, rfl, L6.out, HL0.out.2.1.mono (by omega), .inr ?_⟩
      have h1 := dirtL_len a.ps
      rw [HL0.out.1.ca.pl, HB.out.2.1.1] at h1
      have := HB.out.1.1.2
      omega
    case round =>
      obtain ⟨k, hk, rfl, own2, a2, rfl, hL2, hI2, hD2⟩ := hrel
      by_cases hlt : k < 20
      · have q1 : (k : Int) < 20 := by omega
        have hN : 3 + l.length * 60 + k * 60 + n.bl * (n.pa + 2) ≤ 50000 := by have := HB.out.2.2.2; have := HB.out.2.1.2.2.1; omega
        have HT := Lib.hid (wb_tick hL2.ca hI2.fit hN hI2.tie hi lo ba)
        obtain ⟨hI3, -, hT3⟩ := hI2.tick hL2.ca.nx1 hi lo ba
        obtain ⟨t1, t2, t3⟩ := hT3 (by rw [HB.out.2.1.2.1]; exact HR.out)
        have hr1 := hL2.r1
        generalize hR3 : a2.tick n hi lo ba = R at *
        obtain ⟨a3, m3, cd3⟩ := R
        dsimp only at HT hI3 t1 t2 t3
        subst t1
        have H3 := Lib.hid (And.intro hL2 (And.intro hI3 t3))
        generalize hDD : (dirtL a2.ps).length = D at *
        have hml : D ≤ 12 := by
          have h1 := dirtL_len a2.ps
          rw [hL2.ca.pl, HB.out.2.1.1, hDD] at h1
          have := HB.out.1.1.2
          omega
        have hm3 : (dirtL a3.ps).length = D - m3 := by rw [t3, List.length_drop, hDD]
        have hX := Lib.hid (And.intro hI2 (And.intro hDD hR3))
        have HT2 := Lib.hid t2
        clear hL2 hI2 hI3 hT3 t2 t3 hN hR3 hDD hlt
        go_wp2_with (first
          | (refine wpList_load_mid rfl _ _ rfl _ _ rfl _ _ hr1 hut1 rfl hsi1 ?_)
          | fail)
        refine HT.out.mono ?_
        rintro e w7 ⟨rfl, own3, h3, d3⟩
        have hL3 := H3.out.1.did h3 d3
        have HDt := Lib.hid (wb_dirty hL3.ca)
        clear h3 d3 hr1 HT
        go_wp2_with fail
        refine HDt.out.mono ?_
        rintro e w8 ⟨v8, rfl, hs8, -, hb8⟩
        rw [List.length_map, hm3] at hs8
        have hL4 := hL3.below hb8
        have k0 := hL4.q0 (x := .int .i64 hi) rfl
        have k1 := hL4.q1 (x := .int .i64 lo) rfl
        have k2 := hL4.q2 (x := .int .i64 ba) rfl
        obtain ⟨av8, cv8, rfl⟩ := hs8.rd.nil_iff
        have H4 := Lib.hid (And.intro hL4 hm3)
        clear hs8 hb8 hL3 hL4 hm3 HDt
        obtain ⟨p1, p2, p3, p4, p5⟩ := HR.out
        have hn60 := HB.out.2.1.2.2.1
        have t2 := HT2.out
        unfold tickN at t2
        obtain ⟨D', hD'⟩ : ∃ D', D' = D - m3 := ⟨_, rfl⟩
        rw [← hD'] at H4 ⊢
        have hF : ((D : Int) ≤ hi ∧ m3 = 0 ∧ D' = D) ∨ (hi < (D : Int) ∧ 1 ≤ m3 ∧ (m3 : Int) ≤ ba ∧ lo ≤ (D' : Int) ∧ D' + m3 = D) := by
          by_cases hle : (D : Int) ≤ hi
          · rw [if_pos hle] at t2
            exact .inl ⟨hle, by omega, by omega⟩
          · rw [if_neg hle] at t2
            split at t2 <;> exact .inr ⟨by omega, by omega, by omega, by omega, by omega⟩
        have HD2 := Lib.hid hD2
        clear t2 hD' hD2
        rcases hF with ⟨f1, rfl, rfl⟩ | ⟨f1, f2, f3, f4, f5⟩
        · have HP := Lib.hid f1
          have qs : IntKind.i64.wrap ((D' : Int) - 0) = (D' : Int) := IntWalk.i64_in _ (by omega)
          by_cases hlo : (D' : Int) < lo
          all_goals
            go_wp2
            go_roundg (gk - 1)
            case measure => omega
            case rel => exact ⟨k + 1, by omega, by go_num, _, a3, by rw [H4.out.2], H4.out.1, H3.out.2.1.mono (by omega), .inl (by rw [H4.out.2]; exact HP.out)⟩
        · have q2 : (D : Int) - (m3 : Int) = (D' : Int) := by omega
          have HP := Lib.hid (And.intro f1 (And.intro f2 f5))
          go_wp2
          go_roundg (gk - 1)
          case measure => omega
          case rel => exact ⟨k + 1, by omega, by go_num, _, a3, by rw [H4.out.2], H4.out.1, H3.out.2.1.mono (by omega), by rw [H4.out.2]; have := HP.out; have := HD2.out; omega⟩
      · obtain rfl : k = 20 := by omega
        have hle : ((dirtL a2.ps).length : Int) ≤ hi := by omega
        have qd : decide (((dirtL a2.ps).length : Int) ≤ hi) = true := by simpa using hle
        have HRd := Lib.hid (reads15 hL2.ca hI2.val hI2.nop HL.out.2.2.2 (by rw [HB.out.2.1.1]; exact HB.out.1.1.2))
        rw [HB.out.2.1.1, ← HL.out.1] at HRd
        have k0 := hL2.q0 (x := .int .i64 hi) rfl
        have s0 := hL2.k0
        have hr2 := hL2.r2
        rw [← HL.out.1] at hr2
        have HL2 := Lib.hid hL2
        generalize (dirtL a2.ps).length = D at *
        clear hL2 hI2 hD2 hle hlt hk
        go_wp2_with (first
          | (refine wpList_load_midW (by rfl) _ _ rfl _ _ rfl _ _ hr2 hut6 rfl hsi6 ?_)
          | fail)
        refine HRd.out.mono ?_
        rintro e w9 ⟨rfl, own9, h9, d9⟩
        have hL9 := HL2.out.did h9 d9
        have HA := Lib.hid (awake15 w9 (HN.out.1.below hL9.be) (HN.out.2.1.below hL9.be))
        have H9 := Lib.hid hL9.be
        clear h9 d9 hL9 hr2 k0 s0 HRd
        go_wp2_with fail
        refine HA.out.mono ?_
        rintro e w13 ⟨rfl, hb13⟩
        have H13 := Lib.hid (H9.out.trans (hb13.mono H9.out.size))
        clear hb13
        go_wp2
        go_ret
        exact ⟨rfl, H13.out⟩
end Go.Proofs.YtnadilfobmgebaaGreatDoor.writebackLow
