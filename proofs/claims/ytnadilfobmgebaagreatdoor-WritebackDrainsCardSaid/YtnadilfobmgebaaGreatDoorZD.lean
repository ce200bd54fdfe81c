/- Writeback: Drain. Behind Drain nothing is dirty, nor open, and the backing device has what each block reads, firm. -/
import Derived.Test.YtnadilfobmgebaaGreatDoorH35
namespace Go.Proofs.YtnadilfobmgebaaGreatDoor
open Go Go.RowKit
section
variable {own : Nat → Nat} {w : World} {c : Nat} {n : CaN} {p : CaP} {a : CaS} {v : Nat → Bk} {N : Nat}
def CaS.emptied (n : CaN) (a : CaS) : CaS := if dirtL a.ps = [] then a else (a.wstep n 64).1
theorem Inv15.emptied (h : Inv15 n a v N) (h1 : 1 ≤ a.next) (hb : n.bl ≤ 12) : Inv15 n (a.emptied n) v (N + n.bl * (n.pa + 2)) ∧ dirtL (a.emptied n).ps = [] := by
  unfold CaS.emptied
  split
  · next e => exact ⟨h.mono (by omega), e⟩
  · obtain ⟨s1, -, s3⟩ := h.step h1 64
    obtain ⟨-, -, s6⟩ := s3 (by decide)
    refine ⟨s1, ?_⟩
    have hl := dirtL_len a.ps
    rw [h.val.pl] at hl
    rw [s6]
    refine List.drop_eq_nil_of_le ?_
    rw [show min (64 : Int).toNat (dirtL a.ps).length = (dirtL a.ps).length by rw [Nat.min_eq_right]; show _ ≤ 64; omega]
    exact Nat.le_refl _
set_option maxRecDepth 100000 in
theorem wb_drain (h : CaAt own w c n p a) (hI : Inv15 n a v N) (hb : n.bl ≤ 12) (hj : n.jo ≤ 12) (hN : N + n.bl * (n.pa + 2) ≤ 50000) :
    Calls Tryz.prog 51 #[ptr c] w (CaOut own w c n p ((a.emptied n).committed n).1 (.int .i64 0)) := by
  obtain ⟨hIe, hd⟩ := hI.emptied h.nx1 hb
  have HI := Lib.hid (And.intro hI (And.intro hIe (And.intro hd (And.intro hN (And.intro hj (And.intro hb (And.intro h (Did.refl h.far))))))))
  clear hI hIe hd hN hj hb h
  go_enter Tryz.func51, Tryz.ntmps51
  go_wp2_with fail
  go_loopg [] 1 (fun g wr => ∃ own' a', (a' = a ∧ g = 1 ∨ a' = a.emptied n) ∧ CaAt own' wr c n p a' ∧ Did own own' w wr)
  case atStart => exact ⟨own, a, .inl ⟨rfl, rfl⟩, HI.out.2.2.2.2.2.2.1, HI.out.2.2.2.2.2.2.2⟩
  case round =>
    obtain ⟨own1, a1, ha, h1, d1⟩ := hrel
    have HD := Lib.hid (wb_dirty h1)
    have H1 := Lib.hid (And.intro h1 d1)
    have HA := Lib.hid ha
    clear h1 d1 ha
    go_wp2_with fail
    refine HD.out.mono ?_
    rintro e w2 ⟨v2, rfl, hs2, -, hb2⟩
    rw [List.length_map] at hs2
    have h2 := H1.out.1.new (Upd.of_below hb2)
    have d2 := H1.out.2.trans (H1.out.1.didNew (Upd.of_below hb2))
    obtain ⟨av, cv, rfl⟩ := hs2.rd.nil_iff
    clear hs2 hb2 HD
    by_cases hn : dirtL a1.ps = []
    · have he : a1 = a.emptied n := by
        rcases HA.out with ⟨e, -⟩ | e
        · subst e
          unfold CaS.emptied
          rw [if_pos hn]
        · exact e
      rw [hn]
      subst he
      have hIe := HI.out.2.1
      have HC := Lib.hid (ca_ccommit h2 hIe.fit.w1 (by have := hIe.fit.dO; have := h2.jg.len; have := HI.out.2.2.2.1; have := HI.out.2.2.2.2.1; omega))
      rw [hIe.nop.committed.1] at HC
      have H2 := Lib.hid (And.intro h2 d2)
      clear h2 d2 hn hIe
      go_wp2_with fail
      refine HC.out.mono ?_
      rintro e w3 ⟨rfl, own3, h3, d3⟩
      have H3 := Lib.hid (And.intro h3 (H2.out.2.trans d3))
      clear h3 d3 HC
      go_wp2
      go_ret
      exact ⟨rfl, own3, H3.out.1, H3.out.2⟩
    · have he : a1 = a ∧ gk = 1 := by
        rcases HA.out with e | e
        · exact e
        · exact absurd (by rw [e]; exact HI.out.2.2.1) hn
      obtain ⟨rfl, rfl⟩ := he
      have hS := HI.out.1.step h2.nx1 64
      obtain ⟨-, -, hS⟩ := hS
      obtain ⟨e1, -, -⟩ := hS (by decide)
      have HS := Lib.hid (wb_step h2 HI.out.1.fit HI.out.2.2.2.1 HI.out.1.tie 64)
      rw [e1] at HS
      have he : (a1.wstep n 64).1 = a1.emptied n := by unfold CaS.emptied; rw [if_neg hn]
      rw [he] at HS
      have hpos : 0 < (dirtL a1.ps).length := List.length_pos_iff.2 hn
      have H2 := Lib.hid (And.intro h2 d2)
      generalize (dirtL a1.ps).length = D at *
      generalize ((a1.wstep n 64).2.1 : Int) = m at *
      have q1 : (D : Int) > 0 := by omega
      clear h2 d2 hn hS e1 he hpos
      go_wp2_with fail
      refine HS.out.mono ?_
      rintro e w3 ⟨rfl, own3, h3, d3⟩
      have H3 := Lib.hid (And.intro h3 (H2.out.2.trans d3))
      clear h3 d3 HS
      go_wp2
      go_roundg 0
      case measure => decide
      case rel => exact ⟨own3, _, .inr rfl, H3.out.1, H3.out.2⟩
end
end Go.Proofs.YtnadilfobmgebaaGreatDoor
namespace Go.Proofs.YtnadilfobmgebaaGreatDoor.writebackDrains
open Go Go.RowKit Go.ChangeShapes Go.WideShapes Go.ChangeAt Go.Proofs.YtnadilfobmgebaaGreatDoor
set_option maxRecDepth 100000 in
set_option maxHeartbeats 4000000 in
theorem walk (b s j : Int) (l : List Op15) (hi lo ba : Int) (v : Value) (w : World) (hv : Rd w 4 v l.length (ops15 l)) (nib : Nib w) (tur : Tur w) :
    Calls Tryz.prog 12 #[threeV b s j, v, polV hi lo ba] w fun e w' => e = .returned (.bool true) ∧ Below w.heap.size w w' := by
  obtain ⟨A, hA⟩ : ∃ A, A = w.heap.size := ⟨_, rfl⟩
  obtain ⟨w1, hw1⟩ : ∃ w1, w1 = (w.alloc (.cells #[.int .i64 b, .int .i64 s, .int .i64 j] 76)).alloc (.cells #[.int .i64 hi, .int .i64 lo, .int .i64 ba] 94) := ⟨_, rfl⟩
  have hb1 : Below w.heap.size w w1 := by rw [hw1]; exact ((Below.refl _ w).alloc (Nat.le_refl _) _).alloc (by simp) _
  have hz1 : w1.heap.size = A + 2 := by rw [hw1, hA]; simp
  have e0 : w1.heap[A]? = some (.cells #[.int .i64 b, .int .i64 s, .int .i64 j] 76 (0, 0)) := by
    rw [hw1, hA]
    exact (Below.heap_alloc _ _ _ (by simp)).trans (heap_alloc_last w _ rfl)
  have e1 : w1.heap[A + 1]? = some (.cells #[.int .i64 hi, .int .i64 lo, .int .i64 ba] 94 (0, 0)) := by rw [hw1, hA]; exact heap_alloc_last _ _ (by simp)
  have HF := Lib.hid (few15 b s j v l w1 (hv.below hb1))
  have HN := Lib.hid (And.intro nib (And.intro tur (And.intro hv hb1)))
  have HE := Lib.hid (And.intro e0 (And.intro e1 (And.intro hz1 hA)))
  have HW := Lib.hid hw1
  have r0 := range_of_block e0
  have r1 := range_of_block e1
  have s1 := cell_of_block e0 1
  have k0 := cell_of_block e1 0
  have k1 := cell_of_block e1 1
  have k2 := cell_of_block e1 2
  simp at s1 k0 k1 k2
  have hut := Tryz.underlying76
  have hsi := info76
  have hut1 := Tryz.underlying94
  have hsi1 := info94
  obtain ⟨vv, hvv⟩ : ∃ vv, vv = v := ⟨_, rfl⟩
  have HXY0 := Lib.hid trivial
  clear hv nib tur hb1 hz1 e0 e1 hw1
  go_enter Tryz.func12, Tryz.ntmps12
  go_upto_region 1 with fail
  rw [← HW.out, ← hA]
  clear hA
  go_wp2_with (first
    | (refine wpList_load_midW (by rfl) _ _ rfl _ _ rfl _ _ r0 hut rfl hsi ?_)
    | fail)
  refine HF.out.mono ?_
  rintro e w2 ⟨q, rfl, hq, hb2⟩
  have hu2 : Upd (fun _ => False) w1 w2 := Upd.of_below hb2
  replace r0 := hu2.range r0 (fun h => h)
  replace r1 := hu2.range r1 (fun h => h)
  replace s1 := hu2.cellv s1 (fun h => h)
  replace k0 := hu2.cellv k0 (fun h => h)
  replace k1 := hu2.cellv k1 (fun h => h)
  replace k2 := hu2.cellv k2 (fun h => h)
  have g1 := hu2.blockv HE.out.2.1
  have g0 := hu2.blockv HE.out.1
  have hB2 : Below w.heap.size w w2 := HN.out.2.2.2.trans (hb2.mono HN.out.2.2.2.size)
  have H2 := Lib.hid (And.intro hB2 (And.intro g0 (And.intro g1 (And.intro (HN.out.1.below hB2) (And.intro (HN.out.2.1.below hB2) (HN.out.2.2.1.below hB2))))))
  have HA := Lib.hid (awake15 w2 H2.out.2.2.2.1 H2.out.2.2.2.2.1)
  have HQ := Lib.hid hq
  clear hb2 hu2 hB2 hq HF g0 g1
  cases q with
  | false =>
    go_wp2_with fail
    refine HA.out.mono ?_
    rintro e w3 ⟨rfl, hb3⟩
    have H3 := Lib.hid (H2.out.1.trans (hb3.mono H2.out.1.size))
    clear hb3
    go_wp2
    go_ret
    exact ⟨rfl, H3.out⟩
  | true =>
    have HCk := Lib.hid (wb_check hi lo ba s w2)
    go_wp2_with (first
      | (refine wpList_load_midW (by rfl) _ _ rfl _ _ rfl _ _ r1 hut1 rfl hsi1 ?_)
      | fail)
    refine HCk.out.mono ?_
    rintro e w3 ⟨rfl, hb3⟩
    have hu3 : Upd (fun _ => False) w2 w3 := Upd.of_below hb3
    replace r0 := hu3.range r0 (fun h => h)
    replace r1 := hu3.range r1 (fun h => h)
    replace s1 := hu3.cellv s1 (fun h => h)
    have hB3 : Below w.heap.size w w3 := H2.out.1.trans (hb3.mono H2.out.1.size)
    have H2 := Lib.hid (And.intro hB3 (And.intro (hu3.blockv H2.out.2.1) (hu3.blockv H2.out.2.2.1)))
    have HA := Lib.hid (awake15 w3 (HN.out.1.below hB3) (HN.out.2.1.below hB3))
    clear hb3 hu3 hB3 HCk k0 k1 k2
    generalize hck : chkP hi lo ba s = ck at *
    by_cases hc0 : ck = 0
    rotate_left
    · clear hck
      go_wp2_with fail
      refine HA.out.mono ?_
      rintro e w4 ⟨rfl, hb4⟩
      have H4 := Lib.hid (H2.out.1.trans (hb4.mono H2.out.1.size))
      clear hb4
      go_wp2
      go_ret
      exact ⟨rfl, H4.out⟩
    subst hc0
    have hrp : rightP hi lo ba s := by
      unfold chkP at hck
      split at hck
      · assumption
      · cases hck
    have HR := Lib.hid hrp
    clear hck hrp
    obtain ⟨w2, hw2⟩ : ∃ w2, w2 = w3 := ⟨_, rfl⟩
    subst hw2
    go_upto_region 3 with fail
    obtain ⟨hnn, hb, hs, hj, hl60⟩ := HQ.out.1 trivial
    obtain ⟨b, rfl⟩ := Int.eq_ofNat_of_zero_le (show 0 ≤ b by omega)
    obtain ⟨s, rfl⟩ := Int.eq_ofNat_of_zero_le (show 0 ≤ s by omega)
    obtain ⟨j, rfl⟩ := Int.eq_ofNat_of_zero_le (show 0 ≤ j by omega)
    have hB : (1 ≤ b ∧ b ≤ 12) ∧ (1 ≤ s ∧ s ≤ 8) ∧ (4 ≤ j ∧ j ≤ 12) := ⟨by omega, by omega, by omega⟩
    obtain ⟨n, hn⟩ : ∃ n, n = smN b s j := ⟨_, rfl⟩
    have HP := Lib.hid (played15 b s j hB.1 hB.2.1 hB.2.2 hi lo ba l hl60 hnn v w2 (HN.out.2.2.1.below H2.out.1) (HN.out.1.below H2.out.1) (HN.out.2.1.below H2.out.1))
    rw [← hn] at HP
    have hnb : n.bl = b ∧ n.sl = s ∧ n.bl * (n.pa + 2) ≤ 60 ∧ 4 ≤ n.jo ∧ n.jo ≤ 12 := by
      subst hn
      obtain ⟨⟨x1, x2⟩, ⟨x3, x4⟩, ⟨x5, x6⟩⟩ := hB
      have hpa2 : (s - 1) / 4 + 1 ≤ 2 := by omega
      have := Nat.mul_le_mul (show b ≤ 12 by omega) (show (s - 1) / 4 + 1 + 2 ≤ 4 by omega)
      exact ⟨rfl, rfl, by show b * ((s - 1) / 4 + 1 + 2) ≤ 60; omega, x5, x6⟩
    have hnum : Nums15 (playA n hi lo ba l).2 := playA_nums n hi lo ba l hnn
    have HB := Lib.hid (And.intro hB (And.intro hnb (And.intro hnum hl60)))
    clear HA HQ hnn hb hs hj hl60 hB hnb hnum hn
    go_wp2_with (first
      | (refine wpList_load_mid rfl _ _ rfl _ _ rfl _ _ r0 hut rfl hsi ?_)
      | (refine wpList_load_mid rfl _ _ rfl _ _ rfl _ _ r1 hut1 rfl hsi1 ?_)
      | fail)
    refine HP.out.mono ?_
    rintro e w4 ⟨c, p, own1, rfl, h1, hI1, hn1, hb4, ho1⟩
    obtain ⟨now, hnow⟩ : ∃ now, now = (playA n hi lo ba l).2 := ⟨_, rfl⟩
    obtain ⟨a, ha⟩ : ∃ a, a = (playA n hi lo ba l).1 := ⟨_, rfl⟩
    have hnum := HB.out.2.2.1
    rw [← hnow] at hI1 hn1 hnum ⊢
    rw [← ha] at h1 hI1
    obtain ⟨NL, hNL⟩ : ∃ NL, NL = now.map (Value.int .i64) := ⟨_, rfl⟩
    have hNL12 : NL.length = 12 := by rw [hNL, List.length_map, hn1]
    have hone : ∀ v ∈ NL, v.oneCell' = true := by rw [hNL]; exact intsC_one now
    rw [← hNL]
    obtain ⟨w5, hw5⟩ : ∃ w5, w5 = w4.alloc (.cells NL.toArray 64) := ⟨_, rfl⟩
    have hu5 : Upd (fun _ => False) w4 w5 := by rw [hw5]; exact (Upd.refl _ w4).alloc _
    obtain ⟨nb, hnb⟩ : ∃ nb, nb = w4.heap.size := ⟨_, rfl⟩
    have g5 : w5.heap[nb]? = some (.cells NL.toArray 64 (0, 0)) := by rw [hw5, hnb]; exact heap_alloc_last w4 _ rfl
    have hU : Upd (fun _ => False) w2 w5 := (Upd.of_below hb4).trans hu5
    have L0 : LwAt w A b s j 94 #[.int .i64 hi, .int .i64 lo, .int .i64 ba] now nb c n p own1 w5 a :=
      ⟨h1.new hu5, HE.out.2.2.2, fun i hi => ho1 i (Nat.lt_of_lt_of_le hi (lt_of_block H2.out.2.2)), h1.far _ (by omega), below_upd H2.out.1 hU (Nat.le_refl _) (fun _ h => h.elim), hU.blockv H2.out.2.1, hU.blockv H2.out.2.2, by rw [g5, hNL]⟩
    have HL := Lib.hid (And.intro hNL (And.intro hNL12 (And.intro hone hnum)))
    have HL0 := Lib.hid (And.intro L0 (And.intro hI1 (And.intro h1.nx1 HB.out.2.2.2)))
    have hsi6 : (Tryz.prog.info? 64).map (·.size) = some NL.length := by rw [hNL12]; exact info64
    have hut6 := Tryz.underlying64
    have HW5 := Lib.hid (And.intro hw5 hnb)
    clear h1 hI1 hn1 hnum hb4 ho1 hnow ha hNL hNL12 hone hw5 hu5 hU hnb g5 L0 HP r0 r1 s1 
    go_upto_region 4 with (first
      | (refine wpList_store_new rfl _ _ _ rfl _ _ NL rfl rfl (by rw [HL.out.2.1]; rfl) hsi6 HL.out.2.2.1 ?_)
      | fail)
    rw [← HW5.out.1, ← HW5.out.2]
    clear HW5
    have hb12 : n.bl ≤ 12 := by rw [HB.out.2.1.1]; exact HB.out.1.1.2
    have HDr := Lib.hid (wb_drain HL0.out.1.ca HL0.out.2.1 hb12 HB.out.2.1.2.2.2.2 (by have := HL0.out.2.2.2; have := HB.out.2.1.2.2.1; omega))
    obtain ⟨hIe, hde⟩ := HL0.out.2.1.emptied HL0.out.2.2.1 hb12
    obtain ⟨⟨c1, c1'⟩, c2, c3, c4, c5, c6⟩ := hIe.clean HB.out.2.1.2.2.2.1 hde
    generalize ((a.emptied n).committed n).1 = a4 at *
    have HC := Lib.hid (And.intro c6 (And.intro c1 (And.intro c1' hb12)))
    clear hIe hde c1 c1' c6 hb12
    go_wp2_with fail
    refine HDr.out.mono ?_
    rintro e w6 ⟨rfl, own6, h6, d6⟩
    have L6 := Lib.hid (HL0.out.1.did h6 d6)
    have HDv := Lib.hid (ca_devices L6.out.ca)
    clear h6 d6 HDr
    go_wp2_with fail
    refine HDv.out.mono ?_
    rintro e w7 ⟨rfl, own7, h7, d7⟩
    have L7 := Lib.hid (L6.out.did h7 d7)
    have HDt := Lib.hid (wb_dirty L7.out.ca)
    rw [c5] at HDt
    clear h7 d7 HDv
    go_wp2_with fail
    refine HDt.out.mono ?_
    rintro e w8 ⟨v8, rfl, hs8, -, hb8⟩
    have L8 := Lib.hid (L7.out.below hb8)
    obtain ⟨av8, cv8, rfl⟩ := hs8.rd.nil_iff
    have HO1 := Lib.hid (dopen L8.out.ca.back)
    rw [c3] at HO1
    clear hs8 hb8 HDt
    go_wp2_with fail
    refine HO1.out.mono ?_
    rintro e w9 ⟨rfl, hw9⟩
    subst hw9
    have HO2 := Lib.hid (dopen L8.out.ca.ssd)
    rw [c2] at HO2
    clear HO1
    go_wp2_with fail
    refine HO2.out.mono ?_
    rintro e w10 ⟨rfl, hw10⟩
    subst hw10
    have HCo := Lib.hid (ca_ccount L8.out.ca 3)
    rw [c4] at HCo
    clear HO2
    go_wp2_with fail
    refine HCo.out.mono ?_
    rintro e w11 ⟨rfl, own11, h11, d11⟩
    have L11 := Lib.hid (L8.out.did h11 d11)
    have HRd := Lib.hid (reads15 L11.out.ca HC.out.2.1 HC.out.2.2.1 HL.out.2.2.2 HC.out.2.2.2)
    rw [HB.out.2.1.1, ← HL.out.1] at HRd
    have s0 := L11.out.k0
    have hr2 := L11.out.r2
    rw [← HL.out.1] at hr2
    clear h11 d11 HCo c2 c3 c4 c5
    go_wp2_with (first
      | (refine wpList_load_midW (by rfl) _ _ rfl _ _ rfl _ _ hr2 hut6 rfl hsi6 ?_)
      | fail)
    refine HRd.out.mono ?_
    rintro e w12 ⟨rfl, own12, h12, d12⟩
    have L12 := Lib.hid (L11.out.did h12 d12)
    clear h12 d12 HRd s0 hr2
    go_wp2_with fail
    go_loopg [14] b (fun g i wr => ∃ k : Nat, k + g = b ∧ i = .int .i64 (k : Int) ∧ ∃ own', LwAt w A b s j 94 #[.int .i64 hi, .int .i64 lo, .int .i64 ba] now nb c n p own' wr a4)
    case atStart => exact ⟨0, by omega, rfl, _, L12.out⟩
    case round =>
      obtain ⟨k, hk, rfl, own2, hL⟩ := hrel
      have s0 := hL.k0
      by_cases hlt : k < b
      · have q1 : (k : Int) < (b : Int) := by omega
        have q2 : k < 12 := by have := HB.out.1.1.2; omega
        have q3 : (k : Int) < 12 := by omega
        obtain ⟨x, hx⟩ := Int.eq_ofNat_of_zero_le (HL.out.2.2.2.2 k).1
        have hx255 : x ≤ 255 := by have := (HL.out.2.2.2.2 k).2; omega
        have hvx : valsN now k = fillB x := by unfold valsN; rw [hx]; rfl
        have cA := hL.nc (k := k) (by rw [HL.out.2.2.2.1]; omega)
        rw [hx] at cA
        have HFi := Lib.hid (fill_any x hx255)
        generalize hF3 : fillB x = F3 at *
        have hFl : F3.length = 64 := by rw [← hF3]; exact fillB_len x
        have HFm := Lib.hid (ca_firm hL.ca (k := k) (by rw [HB.out.2.1.1]; exact hlt) ((HC.out.1 k (by rw [HB.out.2.1.1]; exact hlt)).trans hvx))
        have HLr := Lib.hid hL
        clear hx hx255 hvx hF3 hL hlt
        go_wp2_with fail
        refine HFm.out.mono ?_
        rintro e w6 ⟨rfl, hb6⟩
        obtain ⟨w7, hw7⟩ : ∃ w7, w7 = w6.alloc (.cells (bkC F3).toArray 23) := ⟨_, rfl⟩
        have hu7 : Upd (fun _ => False) w6 w7 := by rw [hw7]; exact (Upd.refl _ w6).alloc _
        obtain ⟨gb, hgb⟩ : ∃ gb, gb = w6.heap.size := ⟨_, rfl⟩
        have g7 : w7.heap[gb]? = some (.cells (bkC F3).toArray 23 (0, 0)) := by rw [hw7, hgb]; exact heap_alloc_last w6 _ rfl
        have r7 := range_of_block g7
        have hU7 : Upd (fun _ => False) wr w7 := (Upd.of_below hb6).trans hu7
        replace cA := hU7.cellv cA (fun h => h)
        have L7 := Lib.hid (HLr.out.new hU7).drew
        have HW7 := Lib.hid (And.intro hw7 hgb)
        have heq : ∀ W : World, (binOp .neq 23 (.agg (bkC F3).toArray) (.agg (bkC F3).toArray)).run Tryz.prog W = .ok (.bool false) W := by
          intro W; rw [run_neq_bk _ _ hFl hFl]; simp
        have hsi7 := sizeBk F3 hFl
        have hut7 := Tryz.underlying23
        have HFl := Lib.hid hFl
        clear hb6 hu7 g7 hw7 hgb HFm hU7 hFl
        go_upto_region 14 with (first
          | (refine wpList_store_new rfl _ _ _ rfl _ _ (bkC F3) rfl rfl (by rw [bkC_len, HFl.out]; rfl) hsi7 (bkC_one F3) ?_)
          | fail)
        rw [← HW7.out.1, ← HW7.out.2]
        refine wp_region_held_drew (S := fun W => W.rangeAt gb 0 (bkC F3) ∧ W.cell? ⟨nb, k, none⟩ = some (.int .i64 (x : Int))) (by kernel_rfl) (⟨by rw [World.rangeAt_drew]; exact r7, by rw [World.cell?_drew]; exact cA⟩) (fun hHeld => ?_)
        refine Wl.i [0, 1, 2] ?_; iterate 3 refine Wl.t hHeld ?_
        refine Wl.o ?_
        refine Wl.l 3 (fun w h => h.1) hut7 hsi7 hHeld ?_
        refine Wl.i [4, 5, 6] ?_; iterate 3 refine Wl.t hHeld ?_
        refine Wl.o ?_
        refine Wl.r 7 (fun K hK => ?_)
        go_simp
        refine (HFi.out _).mono ?_
        rintro e w8 ⟨rfl, hb8⟩
        have hu8 : Upd (fun _ => False) w7.drew w8 := Upd.of_below hb8
        have r8 := hu8.range (show w7.drew.rangeAt gb 0 (bkC F3) from by rw [World.rangeAt_drew]; exact r7) (fun h => h)
        have cA8 := hu8.cellv (show w7.drew.cell? _ = _ from by rw [World.cell?_drew]; exact cA) (fun h => h)
        have L8 := Lib.hid (L7.out.new hu8)
        clear hb8 hu8
        refine hK.out _ _ (⟨r8, cA8⟩) (fun hH1 => ?_)
        clear hK K
        refine Wl.i [8] (Wl.t hH1 (Wl.o ?_))
        refine Wl.r 9 (fun K hK => ?_)
        go_simp
        refine hK.out _ _ (hH1) (fun hH2 => ?_)
        clear hK K
        refine Wl.d ?_
        clear hHeld hH1 r7 r8 HFi cA cA8
        go_wp2
        go_roundg (gk - 1)
        case measure => omega
        case rel => exact ⟨k + 1, by omega, by go_num, _, L8.out⟩
      · obtain rfl : k = b := by omega
        have q1 : ¬ ((k : Int) < (k : Int)) := by omega
        have HA := Lib.hid (awake15 wr (HN.out.1.below hL.be) (HN.out.2.1.below hL.be))
        have HBB := Lib.hid hL.be
        clear hL hlt hk
        go_wp2_with fail
        refine HA.out.mono ?_
        rintro e w13 ⟨rfl, hb13⟩
        have H13 := Lib.hid (HBB.out.trans (hb13.mono HBB.out.size))
        clear hb13
        go_wp2
        go_ret
        exact ⟨rfl, H13.out⟩
end Go.Proofs.YtnadilfobmgebaaGreatDoor.writebackDrains
