/- Behind Wipe no record is left, both checkpoints tell the same, and nothing is open: the walk of the law. -/
import Derived.Test.YtfhfbpmlnjdfoaaGreatDoorG31
import Derived.Test.YtfhfbpmlnjdfoaaGreatDoorG35
import Derived.Test.YtfhfbpmlnjdfoaaGreatDoorG25
import Derived.Test.YtfhfbpmlnjdfoaaGreatDoorG32
import Derived.Test.YtfhfbpmlnjdfoaaGreatDoorG29
namespace Go.Proofs.YtfhfbpmlnjdfoaaGreatDoor
open Go Go.RowKit
theorem info3 : (Tryz.prog.info? 75).map (·.size) = some 3 := by kernel_rfl
theorem infoOp14 : (Tryz.prog.info? 84).map (·.size) = some 4 := by kernel_rfl
theorem infoEn4 : (Tryz.prog.info? 37).map (·.size) = some 4 := by kernel_rfl
theorem infoPl2 : (Tryz.prog.info? 95).map (·.size) = some 2 := by kernel_rfl
theorem Did14.blk {own own' : Nat → Nat} {w w' : World} {B B' : Nat → Prop} {b : Nat} {o : Obj} (d : Did14 own w B own' w' B') (hb : w.heap[b]? = some o) (h0 : own b = 0) (hB : ¬ B b) : w'.heap[b]? = some o ∧ own' b = 0 ∧ ¬ B' b :=
  have hl := lt_of_block hb
  ⟨(d.1.block _ hl (fun h => h.elim (fun h => h h0) hB)).trans hb, (d.2.1 _ hl).trans h0, fun h => hB (d.2.2 _ hl h)⟩
theorem made_gd (n : CaN) : (madeS n).Gd n 3 := ⟨made_tie n, made_fit n, Nat.zero_le _, Nat.zero_le _⟩
theorem Did14.below {own own' : Nat → Nat} {w w' : World} {B B' : Nat → Prop} {N : Nat} (d : Did14 own w B own' w' B') (h0 : ∀ j, j < N → own j = 0 ∧ ¬ B j) (hN : N ≤ w.heap.size) : Below N w w' :=
  ⟨d.1.os, d.1.tape, d.1.output, d.1.size, fun k hk => d.1.block k (by omega) (fun h => h.elim (fun h => h (h0 k hk).1) (h0 k hk).2)⟩
end Go.Proofs.YtfhfbpmlnjdfoaaGreatDoor
namespace Go.Proofs.YtfhfbpmlnjdfoaaGreatDoor.cacheWipes
open Go Go.RowKit Go.ChangeShapes Go.WideShapes Go.ChangeAt Go.Proofs.YtfhfbpmlnjdfoaaGreatDoor
set_option maxRecDepth 100000 in
set_option maxHeartbeats 4000000 in
theorem walk (b s j : Int) (l : List Op15) (v : Value) (w : World) (hv : Rd w 4 v l.length (ops15 l)) (nib : Nib w) (tur : Tur w) :
    Calls Tryz.prog 5 #[threeV b s j, v] w fun e w' => e = .returned (.bool true) ∧ Below w.heap.size w w' := by
  obtain ⟨A, hA⟩ : ∃ A, A = w.heap.size := ⟨_, rfl⟩
  obtain ⟨w1, hw1⟩ : ∃ w1, w1 = w.alloc (.cells #[.int .i64 b, .int .i64 s, .int .i64 j] 75) := ⟨_, rfl⟩
  have hb1 : Below w.heap.size w w1 := by rw [hw1]; exact (Below.refl _ w).alloc (Nat.le_refl _) _
  have z1 : w1.heap.size = A + 1 := by rw [hw1, hA]; simp
  have e0 : w1.heap[A]? = some (.cells #[.int .i64 b, .int .i64 s, .int .i64 j] 75 (0, 0)) := by rw [hw1, hA]; exact heap_alloc_last w _ rfl
  have HF := Lib.hid (few14 b s j v l w1 (hv.below hb1))
  have HN := Lib.hid (And.intro nib (And.intro tur (And.intro hv hb1)))
  have HE := Lib.hid (And.intro e0 (And.intro z1 hA))
  have HW := Lib.hid hw1
  have r0 := range_of_block e0
  have s0 := cell_of_block e0 0
  have s1 := cell_of_block e0 1
  have s2 := cell_of_block e0 2
  simp at s0 s1 s2
  have hut := Tryz.underlying75
  have hsi := info3
  have hle := hv.le
  unfold maxLen at hle
  obtain ⟨ao, cc, rfl⟩ := hv.nil_iff
  clear hv nib tur hb1 z1 e0 hw1
  go_enter Tryz.func5, Tryz.ntmps5
  go_upto_region 1 with fail
  rw [← HW.out, ← hA]
  clear hA
  go_wp2_with (first
    | (refine wpList_load_midW (by rfl) _ _ rfl _ _ rfl _ _ r0 hut rfl hsi ?_)
    | fail)
  refine HF.out.mono ?_
  rintro e w2 ⟨q, rfl, hq, hb2⟩
  have hu2 : Upd (fun _ => False) w1 w2 := Upd.of_below hb2
  replace s0 := hu2.cellv s0 (fun h => h)
  replace s1 := hu2.cellv s1 (fun h => h)
  replace s2 := hu2.cellv s2 (fun h => h)
  have g0 := hu2.blockv HE.out.1
  have hB2 : Below w.heap.size w w2 := HN.out.2.2.2.trans (hb2.mono HN.out.2.2.2.size)
  have H2 := Lib.hid (And.intro hB2 (And.intro g0 (And.intro (HN.out.1.below hB2) (HN.out.2.1.below hB2))))
  have HQ := Lib.hid hq
  clear hb2 hu2 hB2 hq HF g0 r0 hut hsi
  cases q with
  | false =>
    have HA := Lib.hid (awake14 w2 H2.out.2.2.1 H2.out.2.2.2)
    go_wp2_with fail
    refine HA.out.mono ?_
    rintro e w3 ⟨rfl, hb3⟩
    have H3 := Lib.hid (H2.out.1.trans (hb3.mono H2.out.1.size))
    clear hb3
    go_wp2
    go_ret
    exact ⟨rfl, H3.out⟩
  | true =>
    obtain ⟨hnn, hb, hs, hj, hl60⟩ := HQ.out.1 (by first | rfl | trivial)
    obtain ⟨b, rfl⟩ := Int.eq_ofNat_of_zero_le (show 0 ≤ b by omega)
    obtain ⟨s, rfl⟩ := Int.eq_ofNat_of_zero_le (show 0 ≤ s by omega)
    obtain ⟨j, rfl⟩ := Int.eq_ofNat_of_zero_le (show 0 ≤ j by omega)
    have hokN := smN_ok b s j (by omega) (by omega) (by omega) (by omega) (by omega) (by omega)
    have HS := Lib.hid (small_any b s j (by omega) (by omega) w2)
    obtain ⟨n, hn⟩ : ∃ n, n = smN b s j := ⟨_, rfl⟩
    have hnum : n.bl = b ∧ n.sl = s ∧ n.jo = j ∧ n.pa ≤ 2 ∧ n.Ok ∧ j ≤ 12 ∧ b ≤ 12 := by
      rw [hn]
      exact ⟨rfl, rfl, rfl, by show (s - 1) / 4 + 1 ≤ 2; omega, hokN, by omega, by omega⟩
    rw [← hn] at HS
    have HB := Lib.hid (And.intro hnum (And.intro hnn hl60))
    obtain ⟨L, hL⟩ : ∃ L, L = n.C := ⟨_, rfl⟩
    have hL1 : ∀ v ∈ L, v.oneCell' = true := by rw [hL]; exact n.C_one
    have hL7 : L.length = 7 := by rw [hL]; rfl
    have hsi : (Tryz.prog.info? 40).map (·.size) = some L.length := by rw [hL7]; exact infoSup
    rw [← hL] at HS
    have HL := Lib.hid hL
    clear hnn hb hs hj hl60 hokN hn hnum hL HQ
    go_wp2_with fail
    refine HS.out.mono ?_
    rintro e w3 ⟨rfl, hb3⟩
    obtain ⟨w4, hw4⟩ : ∃ w4, w4 = w3.alloc (.cells L.toArray 40) := ⟨_, rfl⟩
    have hu4 : Upd (fun _ => False) w2 w4 := by rw [hw4]; exact (Upd.of_below hb3).alloc _
    obtain ⟨sb, hsb⟩ : ∃ sb, sb = w3.heap.size := ⟨_, rfl⟩
    have g4 : w4.heap[sb]? = some (.cells L.toArray 40 (0, 0)) := by rw [hw4, hsb]; exact heap_alloc_last w3 _ rfl
    have gA4 := hu4.blockv H2.out.2.1
    have r4 := range_of_block g4
    have s04 := hu4.cellv s0 (fun h => h)
    have HM := Lib.hid (made_ok n HB.out.1.2.2.2.2.1 w4 (H2.out.2.2.1.keep hu4 (fun h => h)) (H2.out.2.2.2.keep hu4 (fun h => h)))
    rw [← HL.out] at HM
    have hB4 : Below w.heap.size w w4 := H2.out.1.trans ((Upd.below hu4).mono H2.out.1.size)
    have H4 := Lib.hid (And.intro hB4 (And.intro gA4 (And.intro g4 (And.intro hw4 hsb))))
    clear hb3 hu4 g4 gA4 hB4 HS hw4 hsb s0 s1 s2
    go_wp2_with (first
      | (refine wpList_store_new rfl _ _ _ rfl _ _ L rfl rfl (by rw [hL7]; rfl) hsi hL1 ?_; refine Stop.i ?_)
      | fail)
    rw [← H4.out.2.2.2.1, ← H4.out.2.2.2.2]
    unfold Stop
    go_wp2_with (first
      | (refine wpList_load_mid rfl _ _ rfl _ _ rfl _ _ r4 Tryz.underlying40 rfl hsi ?_)
      | fail)
    refine HM.out.mono ?_
    rintro e w5 ⟨c, p, own5, rfl, h5, hb5, ho5⟩
    have hu5 : Upd (fun _ => False) w4 w5 := Upd.of_below hb5
    have gA5 := hu5.blockv H4.out.2.1
    have g5 := hu5.blockv H4.out.2.2.1
    have s05 := hu5.cellv s04 (fun h => h)
    have HP := Lib.hid (past_new b (by have := HB.out.1; omega) w5)
    have H5 := Lib.hid (And.intro h5 (And.intro gA5 (And.intro g5 (And.intro (H4.out.1.trans (hb5.mono H4.out.1.size)) (And.intro ho5 hb5.size)))))
    clear h5 hb5 hu5 gA5 g5 ho5 HM s04 r4
    go_wp2_with fail
    refine HP.out.mono ?_
    rintro e w6 ⟨pp, vo, xs, rfl, hps, hb6⟩
    have hu6 : Upd (fun _ => False) w5 w6 := Upd.of_below hb6
    have hR6 : Run14 own5 w6 c n p (madeS n) 3 (fun j => w5.heap.size ≤ j) pp 1 vo xs := ⟨H5.out.1.new hu6, made_gd n, by rw [HB.out.1.1]; exact hps, fun i hi _ => by
      have h1 := H5.out.1.nib.lt
      have h2 := H5.out.1.tur.lt
      exact ⟨H5.out.1.far i hi, by omega, by omega⟩⟩
    have ho6 : ∀ i, i < w4.heap.size → own5 i = 0 ∧ ¬ w5.heap.size ≤ i := fun i hi => ⟨H5.out.2.2.2.2.1 i hi, by have := H5.out.2.2.2.2.2; omega⟩
    have gA6 := hu6.blockv H5.out.2.1
    have g6 := hu6.blockv H5.out.2.2.1
    have H6 := Lib.hid (And.intro hR6 (And.intro gA6 (And.intro g6 (And.intro (H5.out.2.2.2.1.trans (hb6.mono H5.out.2.2.2.1.size)) ho6))))
    clear hps hb6 hu6 hR6 gA6 g6 ho6 HP s05
    go_wp2_with fail
    go_loopg [10] l.length (fun gk s10 wr => ∃ k : Nat, k + gk = l.length ∧ s10 = .int .i64 (k : Int) ∧ ∃ own' a B' vo' xs', Run14 own' wr c n p a (3 + k * 40) B' pp (1 + 2 * k) vo' xs' ∧ Did14 own5 w6 (fun j => w5.heap.size ≤ j) own' wr B' ∧ a.NoP)
    case atStart => exact ⟨0, by omega, rfl, own5, madeS n, _, vo, xs, H6.out.1, Did14.refl _ _ _, ⟨rfl, rfl⟩⟩
    case round =>
      obtain ⟨k, hk, rfl, own1, a, B1, vo1, xs1, hR, hD, hP⟩ := hrel
      by_cases hlt : k < l.length
      · obtain ⟨bl, off, c', hvv, hbl, hc0, hc1, hc2, hc3⟩ := op15_cells HN.out.2.2.1 hlt
        cases hvv
        have hnk := HB.out.2.1 k hlt
        obtain ⟨od, hod⟩ : ∃ od, od = l[k] := ⟨_, rfl⟩
        rw [← hod] at hc0 hc1 hc2 hc3 hnk
        have q1 : (k : Int) < (l.length : Int) := by omega
        have k0 : (0 : Int) ≤ (k : Int) := by omega
        have hBw : Below w.heap.size w wr := H6.out.2.2.2.1.trans (hD.below (fun i hi => H6.out.2.2.2.2 i (Nat.lt_of_lt_of_le hi H4.out.1.size)) H6.out.2.2.2.1.size)
        have hrow : wr.rangeAt bl (off + k * 4) [.int .i64 od.dd, .int .i64 od.bb, .int .i64 od.nn, .int .i64 od.mm] := fun i u hu => by
          rcases i with _ | _ | _ | _ | i
          · cases hu; exact (hBw.cell (p := ⟨bl, off + k * 4, none⟩) hbl).trans hc0
          · cases hu; exact (hBw.cell (p := ⟨bl, off + k * 4 + 1, none⟩) hbl).trans hc1
          · cases hu; exact (hBw.cell (p := ⟨bl, off + k * 4 + 2, none⟩) hbl).trans hc2
          · cases hu; exact (hBw.cell (p := ⟨bl, off + k * 4 + 3, none⟩) hbl).trans hc3
          · cases hu
        have hd0 := (hBw.cell (p := ⟨bl, off + k * 4, none⟩) hbl).trans hc0
        obtain ⟨dd, bb, nn, mm⟩ := od
        simp only at hrow hnk hd0
        obtain ⟨nm, hnm⟩ := Int.eq_ofNat_of_zero_le hnk.1
        subst hnm
        have hpa := HB.out.1.2.2.2.1
        have hjo := HB.out.1.2.2.1
        have hj12 := HB.out.1.2.2.2.2.2.1
        have hl60 := HB.out.2.2
        have hdo := does14 hR (by omega) (by omega) (by omega) dd bb mm nm (by omega)
        have HD := Lib.hid (And.intro hR (And.intro hD (And.intro hP hdo)))
        clear hR hD hP hdo hBw hbl hc0 hc1 hc2 hc3 hod hnk hpa hjo hj12 hlt
        by_cases h7 : dd = 7
        · subst h7
          go_wp2_with fail
          go_roundg (gk - 1)
          case measure => omega
          case rel => exact ⟨k + 1, by omega, by go_num, own1, a, B1, vo1, xs1, HD.out.1.mono (by omega) (by omega), HD.out.2.1, HD.out.2.2.1⟩
        · have q7 : (dd != 7) = true := by simpa using h7
          have HD7 := Lib.hid h7
          clear h7
          go_wp2_with (first
            | (refine wpList_load_mid rfl _ _ rfl _ _ rfl _ _ hrow Tryz.underlying84 rfl infoOp14 ?_)
            | fail)
          refine HD.out.2.2.2.mono ?_
          rintro e w7 ⟨cd, ok, rfl, own7, B7, vo7, xs7, hR7, hD7⟩
          have H7 := Lib.hid (And.intro hR7 (HD.out.2.1.trans hD7))
          clear hR7 hD7
          go_wp2_with fail
          go_roundg (gk - 1)
          case measure => omega
          case rel =>
            have hpa := HB.out.1.2.2.2.1
            have hjo := HB.out.1.2.2.1
            have hj12 := HB.out.1.2.2.2.2.2.1
            exact ⟨k + 1, by omega, by go_num, own7, _, B7, vo7, xs7, H7.out.1.mono (by omega) (by omega), H7.out.2, CaS.Dn.noP (CaS.dn_does14 n a dd bb nm mm HD7.out) HD.out.2.2.1⟩
      · obtain rfl : k = l.length := by omega
        have q1 : ¬ ((l.length : Int) < (l.length : Int)) := by omega
        have hN5 : 3 + l.length * 40 ≤ 50000 := by have := HB.out.2.2; omega
        have hwp := ca_wipe hR.ca hP hR.gd.fit.sm (by have := hR.gd.fit.dO; omega)
        have hpl := hP.wiped hR.ca.fl hR.ca.wh
        have hes := CaS.ents_ok (n := n) hR.gd.tie hR.ca.ok hR.gd.fit.sm
        have hnx := hR.gd.fit.nx
        have HR := Lib.hid (And.intro hR (And.intro hD (And.intro hwp (And.intro hpl (And.intro hes hnx)))))
        clear hR hD hP hwp hpl hes hlt hk hN5 hnx
        go_wp2_with fail
        refine HR.out.2.2.1.mono ?_
        rintro e w7 ⟨rfl, own7, h7, d7⟩
        have bA7 := HR.out.2.1.blk H6.out.2.1 (H6.out.2.2.2.2 A (lt_of_block H4.out.2.1)).1 (H6.out.2.2.2.2 A (lt_of_block H4.out.2.1)).2
        have bS7 := HR.out.2.1.blk H6.out.2.2.1 (H6.out.2.2.2.2 sb (lt_of_block H4.out.2.2.1)).1 (H6.out.2.2.2.2 sb (lt_of_block H4.out.2.2.1)).2
        have gS7 := did_zero d7 bS7.1 bS7.2.1
        have HL7 := Lib.hid (clayout h7)
        have H7 := Lib.hid (And.intro h7 (And.intro d7 gS7))
        clear h7 d7 bA7 bS7 gS7
        obtain ⟨T, hT⟩ : ∃ T, T = layC n.sl n.jo n.pa n.lo := ⟨_, rfl⟩
        have hT1 : ∀ v ∈ T, v.oneCell' = true := by rw [hT]; exact lay_one _ _ _ _
        have hT7 : T.length = 7 := by rw [hT]; rfl
        have hsT : (Tryz.prog.info? 43).map (·.size) = some T.length := by rw [hT7]; exact infoLay
        rw [← hT] at HL7
        go_wp2_with fail
        refine HL7.out.mono ?_
        rintro e w8 ⟨rfl, hb8⟩
        obtain ⟨w9, hw9⟩ : ∃ w9, w9 = w8.alloc (.cells T.toArray 43) := ⟨_, rfl⟩
        have hu9 : Upd (fun _ => False) w7 w9 := by rw [hw9]; exact (Upd.of_below hb8).alloc _
        obtain ⟨tb, htb⟩ : ∃ tb, tb = w8.heap.size := ⟨_, rfl⟩
        have g9 : w9.heap[tb]? = some (.cells T.toArray 43 (0, 0)) := by rw [hw9, htb]; exact heap_alloc_last w8 _ rfl
        have h9 := H7.out.1.new hu9
        have d9 := H7.out.2.1.trans (H7.out.1.didNew hu9)
        have o9 : own7 tb = 0 := H7.out.1.far _ (by rw [htb]; exact hb8.size)
        have gS9 := did_zero (H7.out.1.didNew hu9) H7.out.2.2.1 H7.out.2.2.2
        have k0 : w9.cell? ⟨tb, 0, none⟩ = some (.int .i64 1) := by rw [cell_of_block g9, hT]; rfl
        have k4 : w9.cell? ⟨sb, 4, none⟩ = some (.int .i64 (n.pa : Int)) := by rw [cell_of_block gS9.1, HL.out]; rfl
        obtain ⟨E, hE⟩ : ∃ E, E = a.ents n := ⟨_, rfl⟩
        have hpl := HR.out.2.2.2.1
        have hes := HR.out.2.2.2.2.1
        rw [← hE] at hes hpl
        have hsz : n.size = 1 + 2 * n.pa + n.jo + n.lo + n.lo + n.lo + n.sl := rfl
        have hp1 := HB.out.1.2.2.2.2.1.p1
        have hrp : ∀ base, (∀ i, i < n.pa → (a.wiped n).dF.getD (base + i) zB = (pagesB (a.next - 1) E).getD i zB) → readOk (secsOf (a.wiped n).dF (a.wiped n).dO base n.pa) = true ∧ readSeq (secsOf (a.wiped n).dF (a.wiped n).dO base n.pa) = a.next - 1 ∧ readEs (secsOf (a.wiped n).dF (a.wiped n).dO base n.pa) = E := fun base hb => by
          refine read_pages (by have := HR.out.2.2.2.2.2; have := HB.out.2.2; omega) hes.1 (by have := HB.out.1.2.2.2.1; omega) (by rw [secsOf_len]; exact hes.2) (fun i hi => ?_)
          rw [secsOf_len] at hi
          rw [secs_at _ _ _ _ _ hi]
          exact hb i hi
        have hr1 := hrp 1 hpl.1
        have hr2 := hrp (1 + n.pa) hpl.2.1
        have hread1 := ca_pread h9 rfl 1 (by omega) hr1
        have H9 := Lib.hid (And.intro h9 (And.intro d9 (And.intro (And.intro g9 o9) (And.intro gS9 (And.intro hread1 hr2)))))
        have HPL := Lib.hid (And.intro hpl (And.intro hE hT))
        have HW9 := Lib.hid (And.intro hw9 htb)
        clear h9 d9 g9 o9 gS9 hread1 hr1 hr2 hrp hpl hes hE hT hw9 htb hb8 hu9 HL7 hsz hp1
        go_wp2_with (first
          | (refine wpList_store_new rfl _ _ _ rfl _ _ T rfl rfl (by rw [hT7]; rfl) hsT hT1 ?_; refine Stop.i ?_)
          | fail)
        rw [← HW9.out.1, ← HW9.out.2]
        unfold Stop
        go_wp2_with fail
        refine H9.out.2.2.2.2.1.mono ?_
        rintro e w10 ⟨va, rfl, sa, own10, h10, d10, oa⟩
        have gT10 := did_zero d10 H9.out.2.2.1.1 H9.out.2.2.1.2
        have gS10 := did_zero d10 H9.out.2.2.2.1.1 H9.out.2.2.2.1.2
        have k0 : w10.cell? ⟨tb, 0, none⟩ = some (.int .i64 1) := by rw [cell_of_block gT10.1, HPL.out.2.2]; rfl
        have k4 : w10.cell? ⟨sb, 4, none⟩ = some (.int .i64 (n.pa : Int)) := by rw [cell_of_block gS10.1, HL.out]; rfl
        have hread2 := ca_pread h10 rfl (1 + n.pa) (by show 1 + n.pa + n.pa ≤ 1 + 2 * n.pa + n.jo + n.lo + n.lo + n.lo + n.sl; omega) H9.out.2.2.2.2.2
        rw [show ((1 + n.pa : Nat) : Int) = 1 + (n.pa : Int) by simp] at hread2
        have hpa2 := HB.out.1.2.2.2.1
        have H10 := Lib.hid (And.intro h10 (And.intro (H9.out.2.1.trans d10) (And.intro gT10 (And.intro gS10 (And.intro hread2 (And.intro sa (fun g hg => (oa g hg).2)))))))
        clear h10 d10 gT10 gS10 hread2 sa oa
        go_wp2_with fail
        refine H10.out.2.2.2.2.1.mono ?_
        rintro e w11 ⟨vb, rfl, sb2, own11, h11, d11, ob⟩
        have gT11 := did_zero d11 H10.out.2.2.1.1 H10.out.2.2.1.2
        have gS11 := did_zero d11 H10.out.2.2.2.1.1 H10.out.2.2.2.1.2
        have k1 : w11.cell? ⟨tb, 1, none⟩ = some (.int .i64 ((1 + 2 * n.pa : Nat) : Int)) := by rw [cell_of_block gT11.1, HPL.out.2.2]; simp [layC]
        have k3 : w11.cell? ⟨sb, 3, none⟩ = some (.int .i64 (n.jo : Int)) := by rw [cell_of_block gS11.1, HL.out]; rfl
        have sa11 := H10.out.2.2.2.2.2.1.keep d11.upd (fun g hg hs => hs.1 (H10.out.2.2.2.2.2.2 g hg))
        have hos : Calls Tryz.prog 20 #[ptr p.ssd] w11 fun e w' => e = .returned (.int .i64 0) ∧ w' = w11 := dopen h11.ssd
        have hob : Calls Tryz.prog 20 #[ptr p.back] w11 fun e w' => e = .returned (.int .i64 0) ∧ w' = w11 := by
          have := dopen h11.back
          rw [HPL.out.1.2.2.2.1] at this
          exact this
        have hfl := h11.fl
        have hno := nought14 h11.ssd (base := 1 + 2 * n.pa) (m := n.jo) (by rw [hfl]; show 1 + 2 * n.pa + n.jo ≤ 1 + 2 * n.pa + n.jo + n.lo + n.lo + n.lo + n.sl; omega) (by rw [hfl]; exact h11.ok.z) HPL.out.1.2.2.1
        have HO := Lib.hid (And.intro hos (And.intro hob hno))
        have H11 := Lib.hid (And.intro h11 (And.intro (H10.out.2.1.trans d11) (And.intro sa11 (And.intro sb2 (And.intro (fun g hg => (d11.old g (sa11.lt hg |> fun _ => by have := (H10.out.2.2.2.2.2.1.lt hg); exact this)).trans (H10.out.2.2.2.2.2.2 g hg)) (fun g hg => (ob g hg).2))))))
        obtain ⟨av, cv, hva⟩ := sa11.rd.nil_iff
        obtain ⟨bv, cv2, hvb⟩ := sb2.rd.nil_iff
        subst hva hvb
        have hEl := sb2.le
        unfold maxLen at hEl
        clear h11 d11 gT11 gS11 sa11 sb2 ob hos hob hfl hno hpa2
        clear hsi hT1 hsT hL7 hT7 hL1
        go_wp2_with fail
        refine HO.out.1.mono ?_
        rintro e w12 ⟨rfl, hw12⟩
        rw [hw12]
        clear hw12 w12
        go_wp2_with fail
        refine HO.out.2.1.mono ?_
        rintro e w12 ⟨rfl, hw12⟩
        rw [hw12]
        clear hw12 w12
        go_wp2_with fail
        refine HO.out.2.2.mono ?_
        rintro e w12 ⟨rfl, hb12⟩
        have hu12 : Upd (fun _ => False) w11 w12 := Upd.of_below hb12
        have H12 := Lib.hid (And.intro (H11.out.1.new hu12) (And.intro (H11.out.2.1.trans (H11.out.1.didNew hu12)) (And.intro (H11.out.2.2.1.keep hu12 (fun _ _ h => h)) (H11.out.2.2.2.1.keep hu12 (fun _ _ h => h)))))
        have H12b := Lib.hid hb12
        clear hb12 hu12 HO k1 k3
        go_wp2_with fail
        obtain ⟨gk2, hgk2⟩ : ∃ x, x = gk := ⟨_, rfl⟩
        clear hgk2
        have q20 : E.length ≤ 8 := by
          have h1 := HR.out.2.2.2.2.1.2
          rw [← HPL.out.2.1] at h1
          have h2 := HB.out.1.2.2.2.1
          unfold needN at h1
          omega
        clear hEl
        go_loopg [20] E.length (fun gk s20 wz => ∃ i : Nat, i + gk = E.length ∧ s20 = .int .i64 (i : Int) ∧ ∃ ownz, CaAt ownz wz c n p (a.wiped n) ∧ Did own11 ownz w11 wz)
        case atStart => exact ⟨0, by omega, rfl, own11, H12.out.1, H11.out.1.didNew (Upd.of_below (H12b.out))⟩
        case round =>
          obtain ⟨i, hi, rfl, ownz, hz, dz⟩ := hrel
          have saz := H11.out.2.2.1.keep dz.upd (fun g hg hs => hs.1 (H11.out.2.2.2.2.1 g hg))
          have sbz := H11.out.2.2.2.1.keep dz.upd (fun g hg hs => hs.1 (H11.out.2.2.2.2.2 g hg))
          by_cases hlt : i < E.length
          · obtain ⟨x, hx⟩ : ∃ x, x = E[i] := ⟨_, rfl⟩
            obtain ⟨m, hm, hxe, hpn, hp0, hp1⟩ := CaS.ents_in HR.out.1.gd.tie (x := x) (by rw [hx, ← HPL.out.2.1]; exact List.getElem_mem hlt)
            obtain ⟨ga, oa, ca, ea, hga, hca⟩ := saz.rd.at (by omega)
            cases ea
            obtain ⟨gb, ob, cb, eb, hgb, hcb⟩ := sbz.rd.at (by omega)
            cases eb
            have ra := flat_row (enc := entC) (m := 4) (fun _ => rfl) hca hlt
            have rb := flat_row (enc := entC) (m := 4) (fun _ => rfl) hcb hlt
            rw [← hx] at ra rb
            have hml : m < (a.wiped n).ps.length := by rw [HPL.out.1.2.2.2.2.2.1, HR.out.1.gd.tie.hpl]; exact hm
            have hpw : plc (a.wiped n).ps m = plc a.ps m := by rw [HPL.out.1.2.2.2.2.2.1]
            have hpl := ca_place hz (m : Int)
            rw [getV_at hml (by rw [hpw]; exact hpn), getC_iff.2 ⟨m, hml, rfl, by rw [hpw]; exact hpn⟩, hpw] at hpl
            obtain ⟨xb, xs, xd, xm⟩ := x
            injection hxe with h1 h2 h3 h4
            subst h1
            have h2' : (plc a.ps xb).1 = (xs : Int) := by omega
            rw [h2', ← h3] at hpl
            replace ra : wr.rangeAt ga (oa + i * 4) [.int .i64 (xb : Int), .int .i64 (xs : Int), .bool xd, .int .i64 (xm : Int)] := ra
            replace rb : wr.rangeAt gb (ob + i * 4) [.int .i64 (xb : Int), .int .i64 (xs : Int), .bool xd, .int .i64 (xm : Int)] := rb
            have hb0 : wr.cell? ⟨ga, oa + i * 4, none⟩ = some (.int .i64 (xb : Int)) := ra 0 _ rfl
            have q1 : (i : Int) < (E.length : Int) := by omega
            have i0 : (0 : Int) ≤ (i : Int) := by omega
            have hneq := fun W => run_neq_ent W (xb : Int) (xs : Int) xd (xm : Int)
            have hne2 : ∀ W : World, (binOp .neq 95 (.agg #[.int .i64 (xs : Int), .bool xd]) (.agg #[.int .i64 (xs : Int), .bool xd])).run Tryz.prog W = .ok (.bool false) W := fun W => by rw [run_neq_place]; simp
            have oga : ownz ga = 0 := (dz.old ga (H11.out.2.2.1.lt rfl)).trans (H11.out.2.2.2.2.1 ga rfl)
            have ogb : ownz gb = 0 := (dz.old gb (H11.out.2.2.2.1.lt rfl)).trans (H11.out.2.2.2.2.2 gb rfl)
            have HZ := Lib.hid (And.intro hz (And.intro dz (And.intro saz (And.intro sbz hpl))))
            have HO := Lib.hid (And.intro oga ogb)
            clear hz dz saz sbz hpl hga hca hgb hcb hml hpw hx hm hpn hp0 hp1 h2 h3 h4 h2' hlt oga ogb
            go_wp2_with fail
            refine HZ.out.2.2.2.2.mono ?_
            rintro e w13 ⟨rfl, own13, h13, d13⟩
            obtain ⟨w14, hw14⟩ : ∃ w14, w14 = w13.alloc (.cells #[.int .i64 (xs : Int), .bool xd] 95) := ⟨_, rfl⟩
            have hu14 : Upd (fun _ => False) w13 w14 := by rw [hw14]; exact (Upd.refl _ w13).alloc _
            obtain ⟨pb, hpb⟩ : ∃ pb, pb = w13.heap.size := ⟨_, rfl⟩
            have g14 : w14.heap[pb]? = some (.cells #[.int .i64 (xs : Int), .bool xd] 95 (0, 0)) := by rw [hw14, hpb]; exact heap_alloc_last w13 _ rfl
            have rp : w14.rangeAt pb 0 [.int .i64 (xs : Int), .bool xd] := range_of_block g14
            have ra14 := hu14.range (d13.upd.range ra (fun hs => hs.1 HO.out.1)) (fun h => h)
            have rb14 := hu14.range (d13.upd.range rb (fun hs => hs.1 HO.out.2)) (fun h => h)
            have a1 : w14.cell? ⟨ga, oa + i * 4 + 1, none⟩ = some (.int .i64 (xs : Int)) := ra14 1 _ rfl
            have a2 : w14.cell? ⟨ga, oa + i * 4 + 2, none⟩ = some (.bool xd) := ra14 2 _ rfl
            have H14 := Lib.hid (And.intro (h13.new hu14) (HZ.out.2.1.trans (d13.trans (h13.didNew hu14))))
            have HW14 := Lib.hid (And.intro hw14 hpb)
            clear h13 d13 hu14 g14 hw14 hpb ra rb hb0
            go_wp2_with fail
            rw [← HW14.out.1, ← HW14.out.2]
            refine wp_region_held_drew (S := fun W => W.rangeAt ga (oa + i * 4) [.int .i64 (xb : Int), .int .i64 (xs : Int), .bool xd, .int .i64 (xm : Int)] ∧ W.rangeAt gb (ob + i * 4) [.int .i64 (xb : Int), .int .i64 (xs : Int), .bool xd, .int .i64 (xm : Int)] ∧ W.rangeAt pb 0 [.int .i64 (xs : Int), .bool xd] ∧ W.cell? ⟨ga, oa + i * 4 + 1, none⟩ = some (.int .i64 (xs : Int)) ∧ W.cell? ⟨ga, oa + i * 4 + 2, none⟩ = some (.bool xd))
              (by kernel_rfl) (⟨by rw [World.rangeAt_drew]; exact ra14, by rw [World.rangeAt_drew]; exact rb14, by rw [World.rangeAt_drew]; exact rp, by rw [World.cell?_drew]; exact a1, by rw [World.cell?_drew]; exact a2⟩) (fun hHeld => ?_)
            refine Wl.i [0, 1, 2] ?_; iterate 3 refine Wl.t hHeld ?_
            refine Wl.o ?_
            refine Wl.l 3 (fun w h => h.1) Tryz.underlying37 infoEn4 hHeld ?_
            refine Wl.i [4, 5, 6] ?_; iterate 3 refine Wl.t hHeld ?_
            refine Wl.o ?_
            refine Wl.l 7 (fun w h => h.2.1) Tryz.underlying37 infoEn4 hHeld ?_
            refine Wl.i [8, 9, 10, 11, 12, 13] ?_; iterate 6 refine Wl.t hHeld ?_
            refine Wl.o ?_
            refine Wl.l 14 (fun w h => h.2.2.1) Tryz.underlying95 infoPl2 hHeld ?_
            refine Wl.i [15, 16, 17, 18, 19, 20, 21, 22, 23, 24, 25, 26, 27] ?_; iterate 13 refine Wl.t hHeld ?_
            refine Wl.o ?_
            refine Wl.d ?_
            clear hHeld ra14 rb14 rp a1 a2 hneq hne2
            go_wp2_with fail
            go_roundg (gk - 1)
            case measure => omega
            case rel =>
              have ud := (Upd.refl (fun _ => False) w14).drew
              exact ⟨i + 1, by omega, by go_num, own13, H14.out.1.new ud, H14.out.2.trans (H14.out.1.didNew ud)⟩
          · obtain rfl : i = E.length := by omega
            have q1 : ¬ ((E.length : Int) < (E.length : Int)) := by omega
            have hct := ca_ccount hz 3
            rw [HPL.out.1.2.2.2.2.1] at hct
            have HZ := Lib.hid (And.intro hct dz)
            clear hz dz saz sbz hct hlt
            go_wp2_with fail
            refine HZ.out.1.mono ?_
            rintro e w13 ⟨rfl, own13, h13, d13⟩
            have HA := Lib.hid (awake14 w13 h13.nib h13.tur)
            have hB13 : Below w.heap.size w w13 := by
              have D := H11.out.2.1.trans (HZ.out.2.trans d13)
              have h46 : w.heap.size ≤ w4.heap.size := H4.out.1.size
              have hB0 := H6.out.2.2.2.1.trans (HR.out.2.1.below (fun i hi => H6.out.2.2.2.2 i (Nat.lt_of_lt_of_le hi h46)) H6.out.2.2.2.1.size)
              refine below_upd hB0 D.upd (Nat.le_refl _) (fun k hk => ?_)
              rcases Nat.lt_or_ge k w.heap.size with hlt | hge
              · exact absurd ((HR.out.2.1.2.1 k (Nat.lt_of_lt_of_le hlt H6.out.2.2.2.1.size)).trans (H6.out.2.2.2.2 k (Nat.lt_of_lt_of_le hlt h46)).1) hk.1
              · exact hge
            have H13 := Lib.hid hB13
            clear h13 d13 hB13
            go_wp2_with fail
            refine HA.out.mono ?_
            rintro e w14 ⟨rfl, hb14⟩
            have H14 := Lib.hid (H13.out.trans (hb14.mono H13.out.size))
            clear hb14
            go_wp2
            go_ret
            exact ⟨rfl, H14.out⟩
end Go.Proofs.YtfhfbpmlnjdfoaaGreatDoor.cacheWipes
