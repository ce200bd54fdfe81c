/- Where a device fails Step tells so, no block that is not written back is clean, and what blocks read does not turn. -/
import Derived.Test.YtnadilfobmgebaaGreatDoorH35
namespace Go.Proofs.YtnadilfobmgebaaGreatDoor.writebackFails
open Go Go.RowKit Go.ChangeShapes Go.WideShapes Go.ChangeAt Go.Proofs.YtnadilfobmgebaaGreatDoor
set_option maxRecDepth 100000 in
set_option maxHeartbeats 4000000 in
theorem walk (b s j : Int) (l : List Op15) (x y : Int) (hx : InR x) (hy : InR y) (v : Value) (w : World) (hv : Rd w 4 v l.length (ops15 l)) (nib : Nib w) (tur : Tur w) :
    Calls Tryz.prog 11 #[threeV b s j, v, .agg #[.int .i64 x, .int .i64 y]] w fun e w' => e = .returned (.bool true) ∧ Below w.heap.size w w' := by
  obtain ⟨A, hA⟩ : ∃ A, A = w.heap.size := ⟨_, rfl⟩
  obtain ⟨w1, hw1⟩ : ∃ w1, w1 = (w.alloc (.cells #[.int .i64 b, .int .i64 s, .int .i64 j] 76)).alloc (.cells #[.int .i64 x, .int .i64 y] 91) := ⟨_, rfl⟩
  have hb1 : Below w.heap.size w w1 := by rw [hw1]; exact ((Below.refl _ w).alloc (Nat.le_refl _) _).alloc (by simp) _
  have hz1 : w1.heap.size = A + 2 := by rw [hw1, hA]; simp
  have e0 : w1.heap[A]? = some (.cells #[.int .i64 b, .int .i64 s, .int .i64 j] 76 (0, 0)) := by
    rw [hw1, hA]
    exact (Below.heap_alloc _ _ _ (by simp)).trans (heap_alloc_last w _ rfl)
  have e1 : w1.heap[A + 1]? = some (.cells #[.int .i64 x, .int .i64 y] 91 (0, 0)) := by rw [hw1, hA]; exact heap_alloc_last _ _ (by simp)
  have HF := Lib.hid (few15 b s j v l w1 (hv.below hb1))
  have HN := Lib.hid (And.intro nib (And.intro tur (And.intro hv hb1)))
  have HE := Lib.hid (And.intro e0 (And.intro e1 (And.intro hz1 hA)))
  have HW := Lib.hid hw1
  have r0 := range_of_block e0
  have r1 := range_of_block e1
  have s1 := cell_of_block e0 1
  have k0 := cell_of_block e1 0
  have k1 := cell_of_block e1 1
  simp at s1 k0 k1
  have hut := Tryz.underlying76
  have hsi := info76
  obtain ⟨vv, hvv⟩ : ∃ vv, vv = v := ⟨_, rfl⟩
  have HXY0 := Lib.hid (And.intro hx hy)
  clear hv nib tur hb1 hz1 e0 e1 hw1 hx hy
  go_enter Tryz.func11, Tryz.ntmps11
  go_upto_region 1 with fail
  rw [← HW.out, ← hA]
  clear hA
  go_wp2_with (first
    | (refine wpList_load_midW (by rfl) _ _ rfl _ _ rfl _ _ r0 hut rfl hsi ?_)
    | fail)
  refine HF.out.mono ?_
  rintro e w2 ⟨q, rfl, hq, hb2⟩
  have hu2 : Upd (fun _ => False) w1 w2 := Upd.of_below hb2
  replace r0 := hu2.range r0 (fun h => h)
  replace r1 := hu2.range r1 (fun h => h)
  replace s1 := hu2.cellv s1 (fun h => h)
  replace k0 := hu2.cellv k0 (fun h => h)
  replace k1 := hu2.cellv k1 (fun h => h)
  have g1 := hu2.blockv HE.out.2.1
  have g0 := hu2.blockv HE.out.1
  have hB2 : Below w.heap.size w w2 := HN.out.2.2.2.trans (hb2.mono HN.out.2.2.2.size)
  have H2 := Lib.hid (And.intro hB2 (And.intro g0 (And.intro g1 (And.intro (HN.out.1.below hB2) (And.intro (HN.out.2.1.below hB2) (HN.out.2.2.1.below hB2))))))
  have HA := Lib.hid (awake15 w2 H2.out.2.2.2.1 H2.out.2.2.2.2.1)
  have HQ := Lib.hid hq
  clear hb2 hu2 hB2 hq HF g0 g1
  cases q with
  | false =>
    go_wp2_with fail
    refine HA.out.mono ?_
    rintro e w3 ⟨rfl, hb3⟩
    have H3 := Lib.hid (H2.out.1.trans (hb3.mono H2.out.1.size))
    clear hb3
    go_wp2
    go_ret
    exact ⟨rfl, H3.out⟩
  | true =>
    by_cases hxy : 0 ≤ x ∧ 0 ≤ y
    rotate_left
    · have hxy' : x < 0 ∨ y < 0 := by omega
      clear hxy
      go_wp2_with fail
      all_goals
        refine HA.out.mono ?_
        rintro e w3 ⟨rfl, hb3⟩
        have H3 := Lib.hid (H2.out.1.trans (hb3.mono H2.out.1.size))
        clear hb3
        go_wp2
        go_ret
        exact ⟨rfl, H3.out⟩
    obtain ⟨x0, y0⟩ := hxy
    have HXY := Lib.hid (And.intro x0 y0)
    have H2 := Lib.hid (And.intro H2.out.1 (And.intro H2.out.2.1 H2.out.2.2.1))
    go_upto_region 3 with fail
    obtain ⟨hnn, hb, hs, hj, hl60⟩ := HQ.out.1 trivial
    obtain ⟨b, rfl⟩ := Int.eq_ofNat_of_zero_le (show 0 ≤ b by omega)
    obtain ⟨s, rfl⟩ := Int.eq_ofNat_of_zero_le (show 0 ≤ s by omega)
    obtain ⟨j, rfl⟩ := Int.eq_ofNat_of_zero_le (show 0 ≤ j by omega)
    have hB : (1 ≤ b ∧ b ≤ 12) ∧ (1 ≤ s ∧ s ≤ 8) ∧ (4 ≤ j ∧ j ≤ 12) := ⟨by omega, by omega, by omega⟩
    obtain ⟨n, hn⟩ : ∃ n, n = smN b s j := ⟨_, rfl⟩
    have HP := Lib.hid (played15 b s j hB.1 hB.2.1 hB.2.2 0 0 1 l hl60 hnn v w2 (HN.out.2.2.1.below H2.out.1) (HN.out.1.below H2.out.1) (HN.out.2.1.below H2.out.1))
    rw [← hn] at HP
    have hnb : n.bl = b ∧ n.sl = s ∧ n.bl * (n.pa + 2) ≤ 60 ∧ 4 ≤ n.jo ∧ n.jo ≤ 12 := by
      subst hn
      obtain ⟨⟨x1, x2⟩, ⟨x3, x4⟩, ⟨x5, x6⟩⟩ := hB
      have hpa2 : (s - 1) / 4 + 1 ≤ 2 := by omega
      have := Nat.mul_le_mul (show b ≤ 12 by omega) (show (s - 1) / 4 + 1 + 2 ≤ 4 by omega)
      exact ⟨rfl, rfl, by show b * ((s - 1) / 4 + 1 + 2) ≤ 60; omega, x5, x6⟩
    have hnum : Nums15 (playA n 0 0 1 l).2 := playA_nums n 0 0 1 l hnn
    have HB := Lib.hid (And.intro hB (And.intro hnb (And.intro hnum hl60)))
    clear HA HQ hnn hb hs hj hl60 hB hnb hnum hn
    go_wp2_with (first
      | (refine wpList_load_mid rfl _ _ rfl _ _ rfl _ _ r0 hut rfl hsi ?_)
      | fail)
    refine HP.out.mono ?_
    rintro e w4 ⟨c, p, own1, rfl, h1, hI1, hn1, hb4, ho1⟩
    obtain ⟨now, hnow⟩ : ∃ now, now = (playA n 0 0 1 l).2 := ⟨_, rfl⟩
    obtain ⟨a, ha⟩ : ∃ a, a = (playA n 0 0 1 l).1 := ⟨_, rfl⟩
    have hnum := HB.out.2.2.1
    rw [← hnow] at hI1 hn1 hnum ⊢
    rw [← ha] at h1 hI1
    obtain ⟨NL, hNL⟩ : ∃ NL, NL = now.map (Value.int .i64) := ⟨_, rfl⟩
    have hNL12 : NL.length = 12 := by rw [hNL, List.length_map, hn1]
    have hone : ∀ v ∈ NL, v.oneCell' = true := by rw [hNL]; exact intsC_one now
    rw [← hNL]
    obtain ⟨w5, hw5⟩ : ∃ w5, w5 = w4.alloc (.cells NL.toArray 64) := ⟨_, rfl⟩
    have hu5 : Upd (fun _ => False) w4 w5 := by rw [hw5]; exact (Upd.refl _ w4).alloc _
    obtain ⟨nb, hnb⟩ : ∃ nb, nb = w4.heap.size := ⟨_, rfl⟩
    have g5 : w5.heap[nb]? = some (.cells NL.toArray 64 (0, 0)) := by rw [hw5, hnb]; exact heap_alloc_last w4 _ rfl
    have hU : Upd (fun _ => False) w2 w5 := (Upd.of_below hb4).trans hu5
    have L0 : LwAt w A b s j 91 #[.int .i64 x, .int .i64 y] now nb c n p own1 w5 a :=
      ⟨h1.new hu5, HE.out.2.2.2, fun i hi => ho1 i (Nat.lt_of_lt_of_le hi (lt_of_block H2.out.2.2)), h1.far _ (by omega), below_upd H2.out.1 hU (Nat.le_refl _) (fun _ h => h.elim), hU.blockv H2.out.2.1, hU.blockv H2.out.2.2, by rw [g5, hNL]⟩
    have HL := Lib.hid (And.intro hNL (And.intro hNL12 (And.intro hone hnum)))
    have HL0 := Lib.hid (And.intro L0 (And.intro hI1 (And.intro h1.nx1 HB.out.2.2.2)))
    have hsi6 : (Tryz.prog.info? 64).map (·.size) = some NL.length := by rw [hNL12]; exact info64
    have hut6 := Tryz.underlying64
    have HW5 := Lib.hid (And.intro hw5 hnb)
    clear h1 hI1 hn1 hnum hb4 ho1 hnow ha hNL hNL12 hone hw5 hu5 hU hnb g5 L0 HP r0 r1 s1 k0 k1
    go_upto_region 4 with (first
      | (refine wpList_store_new rfl _ _ _ rfl _ _ NL rfl rfl (by rw [HL.out.2.1]; rfl) hsi6 HL.out.2.2.1 ?_)
      | fail)
    rw [← HW5.out.1, ← HW5.out.2]
    clear HW5
    have hb12 : n.bl ≤ 12 := by rw [HB.out.2.1.1]; exact HB.out.1.1.2
    obtain ⟨x, rfl⟩ := Int.eq_ofNat_of_zero_le HXY.out.1
    obtain ⟨y, rfl⟩ := Int.eq_ofNat_of_zero_le HXY.out.2
    have HDv := Lib.hid (ca_devices HL0.out.1.ca)
    go_wp2_with fail
    refine HDv.out.mono ?_
    rintro e w6 ⟨rfl, own6, h6, d6⟩
    have L6 := Lib.hid (HL0.out.1.did h6 d6)
    have x0 := L6.out.q0 (x := .int .i64 (x : Int)) rfl
    have y0 := L6.out.q1 (x := .int .i64 (y : Int)) rfl
    clear h6 d6 HDv
    go_wp2_with fail
    go_loopg [13, 14, 15] 20 (fun g sx sy i wr => ∃ k X Y : Nat, k + g = 20 ∧ (X < 9223372036854775808 ∧ Y < 9223372036854775808) ∧ i = .int .i64 (k : Int) ∧ sx = .int .i64 (X : Int) ∧ sy = .int .i64 (Y : Int) ∧ ∃ own' P Q, Pl P ∧ Pl Q ∧ P.length = k ∧ Q.length = k ∧ LwAt w A b s j 91 #[.int .i64 x, .int .i64 y] now nb c n p own' wr { a with bP := P, dP := Q })
    case atStart =>
      refine ⟨0, x, y, by omega, ⟨by have := HXY0.out.1.2; omega, by have := HXY0.out.2.2; omega⟩, rfl, rfl, rfl, own6, [], [], pl_nil rfl, pl_nil rfl, rfl, rfl, ?_⟩
      have h := L6.out
      have e : a = { a with bP := [], dP := [] } := by
        have := HL0.out.2.1.nop
        cases a
        simp only [CaS.NoP] at this
        obtain ⟨e1, e2⟩ := this
        subst e1 e2
        rfl
      rw [e] at h
      exact h
    case round =>
      obtain ⟨k, X, Y, hk, ⟨hX, hY⟩, rfl, rfl, rfl, own7, P, Q, hP, hQ, hPk, hQk, hL⟩ := hrel
      by_cases hlt : k < 20
      · have q1 : (k : Int) < 20 := by omega
        have hua : Upd (fun _ => False) wr (wr.alloc (.cells #[.int .i64 ((X : Int) % 2)] 3)) := (Upd.refl _ wr).alloc _
        have hLa := hL.new hua
        have HP1 := Lib.hid (ca_back_plan hLa.ca (vk := .slice (some ⟨wr.heap.size, 0, none⟩) 1 1) (l := [(X : Int) % 2]) (Rd.fresh wr [.int .i64 ((X : Int) % 2)] 3 1 rfl (by unfold maxLen; omega)) (by intro z hz; simp at hz; omega) (by show P.length + 1 ≤ 65536; omega))
        have HA := Lib.hid (And.intro hLa (And.intro hP (And.intro hQ (And.intro hPk hQk))))
        clear hL hP hQ hPk hQk hua hLa hlt
        go_wp2_with fail
        refine HP1.out.mono ?_
        rintro e w8 ⟨rfl, own8, h8, d8⟩
        have L8 := Lib.hid (HA.out.1.did h8 d8)
        have hua : Upd (fun _ => False) w8 (w8.alloc (.cells #[.int .i64 ((Y : Int) % 2)] 3)) := (Upd.refl _ w8).alloc _
        have hLa := L8.out.new hua
        have HP2 := Lib.hid (ca_ssd_plan hLa.ca (vk := .slice (some ⟨w8.heap.size, 0, none⟩) 1 1) (l := [(Y : Int) % 2]) (Rd.fresh w8 [.int .i64 ((Y : Int) % 2)] 3 1 rfl (by unfold maxLen; omega)) (by intro z hz; simp at hz; omega) (by have := HA.out.2.2.2.2; show Q.length + 1 ≤ 65536; omega))
        have HLa := Lib.hid hLa
        clear h8 d8 hua hLa HP1
        go_wp2_with fail
        refine HP2.out.mono ?_
        rintro e w9 ⟨rfl, own9, h9, d9⟩
        have L9 := Lib.hid (HLa.out.did h9 d9)
        clear h9 d9 HP2
        go_wp2
        go_roundg (gk - 1)
        case measure => omega
        case rel =>
          obtain ⟨-, hP, hQ, hPk, hQk⟩ := HA.out
          have hbit : ∀ (z : Nat) (R : List Int), Pl R → Pl (R ++ [(z : Int) % 2]) := fun z R hR u hu => by
            rcases List.mem_append.1 hu with hu | hu
            · exact hR u hu
            · simp at hu; omega
          exact ⟨k + 1, X / 2, Y / 2, by omega, ⟨by omega, by omega⟩, by go_num, by rw [Int.natCast_ediv]; rfl, by rw [Int.natCast_ediv]; rfl, _, P ++ [(X : Int) % 2], Q ++ [(Y : Int) % 2], hbit X P hP, hbit Y Q hQ, by rw [List.length_append, hPk]; rfl, by rw [List.length_append, hQk]; rfl, L9.out⟩
      · obtain rfl : k = 20 := by omega
        obtain ⟨a1, ha1⟩ : ∃ a1, a1 = { a with bP := P, dP := Q } := ⟨_, rfl⟩
        rw [← ha1] at hL
        have hf1 : a1.Fit (3 + l.length * 60) := by rw [ha1]; exact { HL0.out.2.1.fit with }
        have hv1 : a1.Val n (valsN now) := by rw [ha1]; exact { HL0.out.2.1.val with }
        have ht1 : a1.Tie n none := by rw [ha1]; exact HL0.out.2.1.tie
        have hSO := hv1.step ht1 hL.ca.nx1 (by rw [ha1]; exact hQ) (by rw [ha1]; exact hP) 5 (by decide)
        have hG := CaS.wstep_go (n := n) ⟨hf1, hL.ca.nx1, ht1, hv1.pl⟩ 5
        have hN5 : 3 + l.length * 60 + n.bl * (n.pa + 2) ≤ 50000 := by have := HL0.out.2.2.2; have := HB.out.2.1.2.2.1; omega
        have e5 : a1.wstep n 5 = a1.step n 5 := if_neg (by decide)
        rw [e5] at hG
        have HL1 := Lib.hid hL
        have HDt := Lib.hid (wb_dirty hL.ca)
        have HF1 := Lib.hid (And.intro hf1 (And.intro ht1 (And.intro hN5 e5)))
        obtain ⟨XL, hXL⟩ : ∃ XL, XL = (dirtL a1.ps).map Int.ofNat := ⟨_, rfl⟩
        rw [← hXL] at HDt
        have hXl : XL.length = (dirtL a1.ps).length ∧ XL.length ≤ 12 := by
          have h1 := dirtL_len a1.ps
          rw [hL.ca.pl] at h1
          rw [hXL, List.length_map]
          omega
        have HSO := Lib.hid (And.intro hSO (And.intro hG (And.intro hXL hXl)))
        clear hL hP hQ hPk hQk hf1 hv1 ht1 hSO hG hN5 e5 ha1 hXL hXl hlt hk L6 x0 y0
        go_wp2_with fail
        refine HDt.out.mono ?_
        rintro e w7 ⟨v7, rfl, hs7, hf7, hb7⟩
        obtain ⟨av7, cv7, rfl⟩ := hs7.rd.nil_iff
        have L7 := Lib.hid (And.intro (HL1.out.below hb7) (LsAt.made hs7 hf7 HL1.out.ca.far))
        have HSt := Lib.hid (wb_step L7.out.1.ca HF1.out.1 HF1.out.2.2.1 HF1.out.2.1 5)
        rw [HF1.out.2.2.2] at HSt
        have hR2 := Lib.hid (Eq.refl (a1.step n 5))
        generalize hR : a1.step n 5 = R at HSt HSO
        obtain ⟨a2, m, cd⟩ := R
        dsimp only at HSt HSO
        clear hs7 hf7 hb7 HDt hR hR2
        go_wp2_with fail
        refine HSt.out.mono ?_
        rintro e w8 ⟨rfl, own8, h8, d8⟩
        have L8 := Lib.hid (And.intro (L7.out.1.did h8 d8) (L7.out.2.did d8))
        have HDt := Lib.hid (wb_dirty L8.out.1.ca)
        rw [HSO.out.1.dirt] at HDt
        clear h8 d8 HSt
        go_wp2_with fail
        refine HDt.out.mono ?_
        rintro e w9 ⟨v9, rfl, hs9, -, hb9⟩
        rw [List.length_map, List.length_drop, ← HSO.out.2.2.2.1] at hs9
        obtain ⟨av9, cv9, rfl⟩ := hs9.rd.nil_iff
        have L9 := Lib.hid (And.intro (L8.out.1.below hb9) (L8.out.2.below (Upd.of_below hb9)))
        clear hs9 hb9 HDt
        go_wp2_with fail
        go_loopg [] a2.bP.length (fun g wr => ∃ own' P, P.length = g ∧ LwAt w A b s j 91 #[.int .i64 x, .int .i64 y] now nb c n p own' wr { a2 with bP := P } ∧ LsAt own' wr (.slice av7 XL.length cv7) XL)
        case atStart => exact ⟨_, a2.bP, rfl, L9.out.1, L9.out.2⟩
        case round =>
          obtain ⟨own10, P, hPg, hL, hS⟩ := hrel
          have HPd := Lib.hid (dplanned hL.ca.back)
          have HLr := Lib.hid (And.intro hL hS)
          clear hL hS
          dsimp only at HPd
          go_wp2_with fail
          refine HPd.out.mono ?_
          rintro e w10 ⟨rfl, hw10⟩
          subst hw10
          clear HPd
          by_cases hlt : 0 < P.length
          · have q1 : (0 : Int) < (P.length : Int) := by omega
            have HRe := Lib.hid (ca_back_read HLr.out.1.ca 0 (by rw [HLr.out.1.ca.gl, HB.out.2.1.1]; exact HB.out.1.1.1))
            go_wp2_with fail
            refine HRe.out.mono ?_
            rintro e w11 ⟨z, cd', -, -, -, rfl, own11, h11, d11⟩
            have L11 := Lib.hid (And.intro (HLr.out.1.did h11 d11) (HLr.out.2.did d11))
            have hPg' := Lib.hid hPg
            clear h11 d11 HRe
            go_wp2
            go_roundg (gk - 1)
            case measure => have := hPg'.out; omega
            case rel => exact ⟨_, P.tail, by have := hPg'.out; rw [List.length_tail]; omega, L11.out.1, L11.out.2⟩
          · obtain rfl : P = [] := List.eq_nil_of_length_eq_zero (by omega)
            clear hlt hPg
            go_wp2_with fail
            go_loopg [] a2.dP.length (fun g wr => ∃ own' Q, Q.length = g ∧ LwAt w A b s j 91 #[.int .i64 x, .int .i64 y] now nb c n p own' wr { a2 with bP := [], dP := Q } ∧ LsAt own' wr (.slice av7 XL.length cv7) XL)
            case atStart => exact ⟨_, a2.dP, rfl, HLr.out.1, HLr.out.2⟩
            case round =>
              obtain ⟨own12, Q, hQg, hL, hS⟩ := hrel
              have HPd := Lib.hid (dplanned hL.ca.ssd)
              have HLr := Lib.hid (And.intro hL hS)
              clear hL hS
              dsimp only at HPd
              go_wp2_with fail
              refine HPd.out.mono ?_
              rintro e w12 ⟨rfl, hw12⟩
              subst hw12
              clear HPd
              by_cases hlt : 0 < Q.length
              · have q1 : (0 : Int) < (Q.length : Int) := by omega
                have HRe := Lib.hid (ca_ssd_read HLr.out.1.ca 0 (by rw [HLr.out.1.ca.fl]; show 0 < 1 + 2 * n.pa + n.jo + n.lo + n.lo + n.lo + n.sl; omega))
                go_wp2_with fail
                refine HRe.out.mono ?_
                rintro e w13 ⟨z, cd', -, -, -, rfl, own13, h13, d13⟩
                have L13 := Lib.hid (And.intro (HLr.out.1.did h13 d13) (HLr.out.2.did d13))
                have hQg' := Lib.hid hQg
                clear h13 d13 HRe
                go_wp2
                go_roundg (gk - 1)
                case measure => have := hQg'.out; omega
                case rel => exact ⟨_, Q.tail, by have := hQg'.out; rw [List.length_tail]; omega, L13.out.1, L13.out.2⟩
              · obtain rfl : Q = [] := List.eq_nil_of_length_eq_zero (by omega)
                have hv3 : CaS.Val n { a2 with bP := [], dP := [] } (valsN now) := { HSO.out.1.st.val with }
                have hP3 : CaS.NoP { a2 with bP := [], dP := [] } := ⟨rfl, rfl⟩
                have hF3 : ∀ k ∈ (dirtL a1.ps).take m, (({ a2 with bP := [], dP := [] } : CaS)).bF.getD k zB = valsN now k := HSO.out.1.firm
                obtain ⟨a3, ha3⟩ : ∃ a3, a3 = ({ a2 with bP := [], dP := [] } : CaS) := ⟨_, rfl⟩
                rw [← ha3] at hv3 hP3 hF3 HLr
                have HRd := Lib.hid (reads15 HLr.out.1.ca hv3 hP3 HL.out.2.2.2 hb12)
                rw [HB.out.2.1.1, ← HL.out.1] at HRd
                have s0 := HLr.out.1.k0
                have hr2 := HLr.out.1.r2
                rw [← HL.out.1] at hr2
                have HF3 := Lib.hid hF3
                obtain ⟨e1, e2⟩ := HSO.out.2.2.2
                have e3 := HSO.out.1.le
                have e4 := HSO.out.1.ok
                dsimp only at e3 e4
                rw [← e1] at e3 e4
                have q5 : (XL.length : Int) - (m : Int) = ((XL.length - m : Nat) : Int) := by omega
                have HE4 := Lib.hid e4
                have q7 : (if cd = 0 then (m : Int) = min 5 (XL.length : Int) else (m : Int) < min 5 (XL.length : Int)) := by
                  split
                  · next e => have := e4.1 e; omega
                  · next e => have := fun h => e (e4.2 h); omega
                have HQ7 := Lib.hid q7
                have hml : m ≤ XL.length := by omega
                obtain ⟨LL, hLL⟩ : ∃ LL, LL = XL.length - m := ⟨_, rfl⟩
                rw [← hLL] at q5 ⊢
                have hLb : LL ≤ 12 := by omega
                have HLL := Lib.hid hLL
                clear hv3 hP3 hF3 ha3 hlt hQg e1 e3 e4 q7 hLL
                have hcc : (cd = 0 ∧ (XL.length : Int) < 5 ∧ m = XL.length ∧ LL = 0) ∨ (cd = 0 ∧ ¬ (XL.length : Int) < 5 ∧ m = 5) ∨ (¬ cd = 0 ∧ (XL.length : Int) < 5 ∧ (m : Int) < (XL.length : Int)) ∨ (¬ cd = 0 ∧ ¬ (XL.length : Int) < 5 ∧ (m : Int) < 5) := by
                  have q7 := HQ7.out
                  have := HLL.out
                  by_cases h : cd = 0
                  · rw [if_pos h] at q7
                    by_cases h5 : (XL.length : Int) < 5
                    · exact .inl ⟨h, h5, by omega, by omega⟩
                    · exact .inr (.inl ⟨h, h5, by omega⟩)
                  · rw [if_neg h] at q7
                    by_cases h5 : (XL.length : Int) < 5
                    · exact .inr (.inr (.inl ⟨h, h5, by omega⟩))
                    · exact .inr (.inr (.inr ⟨h, h5, by omega⟩))
                clear HE4 HQ7
                rcases hcc with ⟨rfl, h5, rfl, rfl⟩ | ⟨rfl, h5, rfl⟩ | ⟨hc, h5, q7⟩ | ⟨hc, h5, q7⟩
                case' inl =>
                  clear q5
                  obtain ⟨m, hm⟩ : ∃ m, m = XL.length := ⟨_, rfl⟩
                  have HF3 := Lib.hid (show ∀ k ∈ (dirtL a1.ps).take m, a3.bF.getD k zB = valsN now k by rw [hm]; exact HF3.out)
                  have HM := Lib.hid hm
                case' inr.inl =>
                  obtain ⟨m, hm⟩ : ∃ m, m = 5 := ⟨_, rfl⟩
                  have HF3 := Lib.hid (show ∀ k ∈ (dirtL a1.ps).take m, a3.bF.getD k zB = valsN now k by rw [hm]; exact HF3.out)
                  have HM := Lib.hid hm
                case' inr.inr.inl =>
                  have HM := Lib.hid (Eq.refl m)
                  have hm := trivial
                  have HD3 := Lib.hid (show (!(cd != 0)) = false by simpa using hc)
                case' inr.inr.inr =>
                  have HM := Lib.hid (Eq.refl m)
                  have hm := trivial
                  have HD3 := Lib.hid (show (!(cd != 0)) = false by simpa using hc)
                all_goals
                  clear hm
                  go_upto_region 23 with fail
                  go_cut [119] (fun s119 wx => s119 = .bool false ∧ ∃ own', LwAt w A b s j 91 #[.int .i64 x, .int .i64 y] now nb c n p own' wx a3 ∧ LsAt own' wx (.slice av7 XL.length cv7) XL)
                  case first =>
                    go_wp2_with (first
                      | (refine wpList_load_midW (by rfl) _ _ rfl _ _ rfl _ _ hr2 hut6 rfl hsi6 ?_)
                      | ((simp only [HD3.out]); (refine wpList_load_midW (by rfl) _ _ rfl _ _ rfl _ _ hr2 hut6 rfl hsi6 ?_))
                      | fail)
                    refine HRd.out.mono ?_
                    rintro e w14 ⟨rfl, own14, h14, d14⟩
                    have L14 := Lib.hid (And.intro (HLr.out.1.did h14 d14) (HLr.out.2.did d14))
                    clear h14 d14
                    go_wp2_with fail
                    go_meet
                    case rel => exact ⟨rfl, _, L14.out.1, L14.out.2⟩
                  case rest =>
                    obtain ⟨rfl, own14, hL, hS⟩ := hcut
                    have L14 := Lib.hid (And.intro hL hS)
                    have HML := Lib.hid hml
                    clear hL hS HRd s0 hr2
                    go_wp2_with fail
                    go_loopg [20] m (fun g i wr => ∃ k : Nat, k + g = m ∧ i = .int .i64 (k : Int) ∧ ∃ own', LwAt w A b s j 91 #[.int .i64 x, .int .i64 y] now nb c n p own' wr a3 ∧ LsAt own' wr (.slice av7 XL.length cv7) XL)
                    case atStart => exact ⟨0, by omega, rfl, _, L14.out.1, L14.out.2⟩
                    case round =>
                      obtain ⟨k, hk, rfl, own15, hL, hS⟩ := hrel
                      by_cases hlt : k < m
                      · have q1 : (k : Int) < (m : Int) := by omega
                        have hM := HM.out
                        have hkX : k < XL.length := by omega
                        (try rw [hM] at q1)
                        clear hM
                        have HK := Lib.hid hlt
                        obtain ⟨bl, off, cap', hv, hc⟩ := hS.at hkX
                        cases hv
                        have hlD : k < (dirtL a1.ps).length := by have := HSO.out.2.2.2.1; omega
                        obtain ⟨d, hd⟩ : ∃ d, d = (dirtL a1.ps)[k] := ⟨_, rfl⟩
                        have hxk : XL[k] = (d : Int) := by simp only [HSO.out.2.2.1, List.getElem_map, hd]; rfl
                        have hdm : d ∈ (dirtL a1.ps).take m := by
                          rw [hd, List.mem_take_iff_getElem]
                          exact ⟨k, by omega, rfl⟩
                        have hdb : d < b := by
                          have := (dirtL_mem.1 (List.mem_of_mem_take hdm)).1
                          rwa [HL1.out.ca.pl, HB.out.2.1.1] at this
                        have qk : (k : Int) < (XL.length : Int) := by omega
                        have q2 : d < 12 := by have := HB.out.1.1.2; omega
                        have q3 : (d : Int) < 12 := by omega
                        obtain ⟨x, hx⟩ := Int.eq_ofNat_of_zero_le (HL.out.2.2.2.2 d).1
                        have hx255 : x ≤ 255 := by have := (HL.out.2.2.2.2 d).2; omega
                        have hvx : valsN now d = fillB x := by unfold valsN; rw [hx]; rfl
                        have cA := hL.nc (k := d) (by rw [HL.out.2.2.2.1]; omega)
                        rw [hx] at cA
                        have HFi := Lib.hid (fill_any x hx255)
                        generalize hF3 : fillB x = F3 at *
                        have hFl : F3.length = 64 := by rw [← hF3]; exact fillB_len x
                        have HFm := Lib.hid (ca_firm hL.ca (k := d) (by rw [HB.out.2.1.1]; exact hdb) ((HF3.out d hdm).trans hvx))
                        rw [hxk] at hc
                        have HLr := Lib.hid hL
                        have HSr := Lib.hid (hS.z bl rfl)
                        have HSS := Lib.hid hS
                        clear hx hx255 hvx hF3 hL hS hlt hlD hd hxk hdm hdb
                        go_wp2_with fail
                        refine HFm.out.mono ?_
                        rintro e w6 ⟨rfl, hb6⟩
                        obtain ⟨w7, hw7⟩ : ∃ w7, w7 = w6.alloc (.cells (bkC F3).toArray 23) := ⟨_, rfl⟩
                        have hu7 : Upd (fun _ => False) w6 w7 := by rw [hw7]; exact (Upd.refl _ w6).alloc _
                        obtain ⟨gb, hgb⟩ : ∃ gb, gb = w6.heap.size := ⟨_, rfl⟩
                        have g7 : w7.heap[gb]? = some (.cells (bkC F3).toArray 23 (0, 0)) := by rw [hw7, hgb]; exact heap_alloc_last w6 _ rfl
                        have r7 := range_of_block g7
                        have hU7 : Upd (fun _ => False) wr w7 := (Upd.of_below hb6).trans hu7
                        replace cA := hU7.cellv cA (fun h => h)
                        replace hc := hU7.cellv hc (fun h => h)
                        have L7 := Lib.hid (HLr.out.new hU7).drew
                        have S7 := Lib.hid (HSS.out.below (hU7.trans (Upd.refl _ w7).drew))
                        have HW7 := Lib.hid (And.intro hw7 hgb)
                        have heq : ∀ W : World, (binOp .neq 23 (.agg (bkC F3).toArray) (.agg (bkC F3).toArray)).run Tryz.prog W = .ok (.bool false) W := by
                          intro W; rw [run_neq_bk _ _ hFl hFl]; simp
                        have hsi7 := sizeBk F3 hFl
                        have hut7 := Tryz.underlying23
                        have HFl := Lib.hid hFl
                        clear hb6 hu7 g7 hw7 hgb HFm hU7 hFl
                        go_upto_region 29 with (first
                          | (refine wpList_store_new rfl _ _ _ rfl _ _ (bkC F3) rfl rfl (by rw [bkC_len, HFl.out]; rfl) hsi7 (bkC_one F3) ?_)
                          | fail)
                        rw [← HW7.out.1, ← HW7.out.2]
                        refine wp_region_held_drew (S := fun W => W.rangeAt gb 0 (bkC F3) ∧ W.cell? ⟨nb, d, none⟩ = some (.int .i64 (x : Int)) ∧ W.cell? ⟨bl, off + k, none⟩ = some (.int .i64 (d : Int))) (by kernel_rfl) (⟨by rw [World.rangeAt_drew]; exact r7, by rw [World.cell?_drew]; exact cA, by rw [World.cell?_drew]; exact hc⟩) (fun hHeld => ?_)
                        refine Wl.i [0, 1, 2] ?_; iterate 3 refine Wl.t hHeld ?_
                        refine Wl.o ?_
                        refine Wl.l 3 (fun w h => h.1) hut7 hsi7 hHeld ?_
                        refine Wl.i [4, 5, 6, 7, 8, 9] ?_; iterate 6 refine Wl.t hHeld ?_
                        refine Wl.o ?_
                        refine Wl.r 10 (fun K hK => ?_)
                        go_simp
                        refine (HFi.out _).mono ?_
                        rintro e w8 ⟨rfl, hb8⟩
                        have hu8 : Upd (fun _ => False) w7.drew w8 := Upd.of_below hb8
                        have r8 := hu8.range (show w7.drew.rangeAt gb 0 (bkC F3) from by rw [World.rangeAt_drew]; exact r7) (fun h => h)
                        have cA8 := hu8.cellv (show w7.drew.cell? _ = _ from by rw [World.cell?_drew]; exact cA) (fun h => h)
                        have hc8 := hu8.cellv (show w7.drew.cell? _ = _ from by rw [World.cell?_drew]; exact hc) (fun h => h)
                        have L8 := Lib.hid (And.intro (L7.out.new hu8) (S7.out.below hu8))
                        clear hb8 hu8
                        refine hK.out _ _ (⟨r8, cA8, hc8⟩) (fun hH1 => ?_)
                        clear hK K
                        refine Wl.i [11] (Wl.t hH1 (Wl.o ?_))
                        refine Wl.r 12 (fun K hK => ?_)
                        go_simp
                        refine hK.out _ _ (hH1) (fun hH2 => ?_)
                        clear hK K
                        refine Wl.d ?_
                        clear hHeld hH1 r7 r8 HFi cA hc cA8 hc8
                        go_wp2
                        go_roundg (gk - 1)
                        case measure => have := HK.out; omega
                        case rel => exact ⟨k + 1, by have := HK.out; omega, by go_num, _, L8.out.1, L8.out.2⟩
                      · have q1 : ¬ ((k : Int) < (m : Int)) := by omega
                        have hM := HM.out
                        (try rw [hM] at q1)
                        clear hM
                        have HA := Lib.hid (awake15 wr (HN.out.1.below hL.be) (HN.out.2.1.below hL.be))
                        have HBB := Lib.hid hL.be
                        clear hL hS hlt hk
                        go_wp2_with fail
                        refine HA.out.mono ?_
                        rintro e w13 ⟨rfl, hb13⟩
                        have H13 := Lib.hid (HBB.out.trans (hb13.mono HBB.out.size))
                        clear hb13
                        go_wp2
                        go_ret
                        exact ⟨rfl, H13.out⟩
end Go.Proofs.YtnadilfobmgebaaGreatDoor.writebackFails
