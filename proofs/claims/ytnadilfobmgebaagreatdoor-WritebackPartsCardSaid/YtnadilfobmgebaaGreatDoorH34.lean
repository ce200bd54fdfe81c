/- Writeback: the law's play of calls. The load of a whole array by an operation that bears a condition. Two caches, side by side; arrays of numbers. An array of integers as an argument of a card: its cells. The two tables that the logs' laws read, as they are laid. -/
import Derived.Test.YtnadilfobmgebaaGreatDoorH33
import Derived.Test.YtnadilfobmgebaaGreatDoorH01
import Derived.Test.YtnadilfobmgebaaGreatDoorCards
import Derived.Test.YtnadilfobmgebaaGreatDoorTie
import Derived.ProofKit
import Derived.OpenShut
import Derived.Deep.DeepHandedRow
import Derived.Test.YtnadilfobmgebaaGreatDoorH07
import Derived.Test.YtnadilfobmgebaaGreatDoorH06
import Derived.Lib.LaidTab
namespace Go.Proofs.YtnadilfobmgebaaGreatDoor
open Go Go.RowKit
theorem info64 : (Tryz.prog.info? 64).map (·.size) = some 12 := by kernel_rfl
theorem info173 : (Tryz.prog.info? 173).map (·.size) = some 4 := by kernel_rfl
theorem PlAt.fin {w X : World} {b s j hi lo ba : Int} {c : Nat} {n : CaN} {p : CaP} {own : Nat → Nat} {a : CaS} {now : List Int} (h : PlAt w b s j hi lo ba c n p own X a now) (vs : List Value) : CaAt own (X.drew.setCells (w.heap.size + 2) 0 vs) c n p a ∧ Below w.heap.size w (X.drew.setCells (w.heap.size + 2) 0 vs) := by
  have hu := upd_row X.drew (w.heap.size + 2) 0 vs
  have hX := h.new ((Upd.refl (fun _ => False) X).drew)
  have hn := h.nl
  exact ⟨hX.ca.nobody hu (fun i e => by subst e; exact ⟨h.z _ (by omega), by omega, by omega⟩), below_upd hX.be hu (Nat.le_refl _) (fun k e => by omega)⟩
theorem now_cell {w X : World} {b s j hi lo ba : Int} {c : Nat} {n : CaN} {p : CaP} {own : Nat → Nat} {a : CaS} {now : List Int} (h : PlAt w b s j hi lo ba c n p own X a now) {k : Nat} (hk : k < now.length) : X.cell? ⟨w.heap.size + 3, k, none⟩ = some (.int .i64 (now.getD k 0)) := by
  refine (cell_of_block h.g3 k).trans ?_
  simp [hk, List.getD_eq_getElem?_getD]
set_option maxRecDepth 100000 in
set_option maxHeartbeats 4000000 in
theorem played15 (b s j : Nat) (hb : 1 ≤ b ∧ b ≤ 12) (hs : 1 ≤ s ∧ s ≤ 8) (hj : 4 ≤ j ∧ j ≤ 12) (hi lo ba : Int) (l : List Op15) (hl60 : l.length ≤ 60) (hnn : ∀ k (h : k < l.length), 0 ≤ l[k].nn ∧ l[k].nn ≤ 255) (v : Value) (w : World) (hv : Rd w 4 v l.length (ops15 l)) (nib : Nib w) (tur : Tur w) :
    Calls Tryz.prog 39 #[threeV b s j, v, polV hi lo ba] w (PlayedOut w (smN b s j) hi lo ba l) := by
  obtain ⟨A, hA⟩ : ∃ A, A = w.heap.size := ⟨_, rfl⟩
  obtain ⟨w1, hw1⟩ : ∃ w1, w1 = (((w.alloc (.cells #[.int .i64 b, .int .i64 s, .int .i64 j] 76)).alloc (.cells #[.int .i64 hi, .int .i64 lo, .int .i64 ba] 94)).alloc (.cells zeros12 64)).alloc (.cells zeros12 64) := ⟨_, rfl⟩
  have hu1 : Upd (fun _ => False) w w1 := by rw [hw1]; exact ((((Upd.refl _ w).alloc _).alloc _).alloc _).alloc _
  have hz1 : w1.heap.size = A + 4 := by rw [hw1, hA]; simp
  have e0 : w1.heap[A]? = some (.cells #[.int .i64 b, .int .i64 s, .int .i64 j] 76 (0, 0)) := by
    rw [hw1, hA]
    exact (((((Upd.refl (fun _ => False) (w.alloc _)).alloc _).alloc _).alloc _).block _ (by simp) (fun h => h)).trans (heap_alloc_last w _ rfl)
  have e1 : w1.heap[A + 1]? = some (.cells #[.int .i64 hi, .int .i64 lo, .int .i64 ba] 94 (0, 0)) := by
    rw [hw1, hA]
    exact ((((Upd.refl (fun _ => False) ((w.alloc _).alloc _)).alloc _).alloc _).block _ (by simp) (fun h => h)).trans (heap_alloc_last _ _ (by simp))
  have e2 : w1.heap[A + 2]? = some (.cells zeros12 64 (0, 0)) := by
    rw [hw1, hA]
    exact (((Upd.refl (fun _ => False) (((w.alloc _).alloc _).alloc _)).alloc _).block _ (by simp) (fun h => h)).trans (heap_alloc_last _ _ (by simp))
  have e3 : w1.heap[A + 3]? = some (.cells zeros12 64 (0, 0)) := by rw [hw1, hA]; exact heap_alloc_last _ _ (by simp)
  have hb1 : Below w.heap.size w w1 := below_upd (Below.refl _ w) hu1 (Nat.le_refl _) (fun k h => h.elim)
  have k0 := cell_of_block e0 0
  have k1 := cell_of_block e0 1
  have k2 := cell_of_block e0 2
  simp at k0 k1 k2
  have HS := Lib.hid (small_any b s j (by omega) (by omega) w1)
  have HN := Lib.hid (And.intro nib (And.intro tur (And.intro hb1 (And.intro hu1 (And.intro hv hnn)))))
  have HE := Lib.hid (And.intro e0 (And.intro e1 (And.intro e2 (And.intro e3 (And.intro hz1 (And.intro hA hw1))))))
  have HB := Lib.hid (And.intro hb (And.intro hs hj))
  have hle := hv.le
  unfold maxLen at hle
  obtain ⟨ao, cc, rfl⟩ := hv.nil_iff
  clear e0 e1 e2 e3 hb1 hu1 nib tur hv hnn hz1 hb hs hj hw1
  go_enter Tryz.func39, Tryz.ntmps39
  go_upto_region 2 with fail
  rw [← HE.out.2.2.2.2.2.2, ← hA]
  clear hA
  go_wp2_with fail
  refine HS.out.mono ?_
  rintro e w2 ⟨rfl, hb2⟩
  have hokN := smN_ok b s j HB.out.1.1 HB.out.1.2 HB.out.2.1.1 HB.out.2.1.2 HB.out.2.2.1 HB.out.2.2.2
  have hu2 : Upd (fun _ => False) w w2 := HN.out.2.2.2.1.trans (Upd.of_below hb2)
  have HM := Lib.hid (made_ok (smN b s j) hokN w2 (HN.out.1.keep hu2 (fun h => h)) (HN.out.2.1.keep hu2 (fun h => h)))
  have H2 := Lib.hid (And.intro hb2 hu2)
  clear hb2 HS hu2 hokN k0 k1 k2
  generalize (smN b s j).C.toArray = SC at *
  go_wp2_with fail
  refine HM.out.mono ?_
  rintro e w3 ⟨c, p, own, rfl, h3, hb3, ho⟩
  have hPl : PlAt w b s j hi lo ba c (smN b s j) p own w3 (madeS (smN b s j)) (List.replicate 12 0) := by
    obtain ⟨e0, e1, e2, e3, hz1, hA, -⟩ := HE.out
    have hw2 := H2.out.1.size
    have hu3 : Upd (fun _ => False) w1 w3 := (Upd.of_below H2.out.1).trans (Upd.of_below hb3)
    rw [hA] at e0 e1 e2 e3 hz1
    refine ⟨h3, fun i hi => ho i (by omega), ?_, hu3.blockv e0, hu3.blockv e1, hu3.blockv e2, hu3.blockv e3, HN.out.1.lt, HN.out.2.1.lt⟩
    exact below_upd HN.out.2.2.1 hu3 (Nat.le_refl _) (fun k h => h.elim)
  have HP := Lib.hid hPl
  clear h3 hb3 ho HM hPl
  go_wp2_with fail
  go_loopg [14] l.length (fun g i wr => ∃ k : Nat, k + g = l.length ∧ i = .int .i64 (k : Int) ∧ ∃ own' a now, (a, now) = playA (smN b s j) hi lo ba (l.take k) ∧ PlAt w b s j hi lo ba c (smN b s j) p own' wr a now ∧ Inv15 (smN b s j) a (valsN now) (3 + k * 60) ∧ now.length = 12)
  case atStart => exact ⟨0, by omega, rfl, own, _, _, rfl, HP.out, madeS_inv0 _, rfl⟩
  case round =>
    obtain ⟨k, hk, rfl, own1, a, now, hpa, hp, hI, hnl⟩ := hrel
    by_cases hlt : k < l.length
    · obtain ⟨bl, off, c', hvv, hbl, hc0, hc1, hc2, hc3⟩ := op15_cells HN.out.2.2.2.2.1 hlt
      cases hvv
      have hnk := HN.out.2.2.2.2.2 k hlt
      have hpn := playA_next (smN b s j) hi lo ba hlt
      rw [← hpa] at hpn
      obtain ⟨od, hod⟩ : ∃ od, od = l[k] := ⟨_, rfl⟩
      rw [← hod] at hc0 hc1 hc2 hc3 hnk hpn
      have hB60 : 3 * (smN b s j).pa + (smN b s j).jo + 6 ≤ 60 ∧ (smN b s j).bl * ((smN b s j).pa + 2) ≤ 60 ∧ (smN b s j).bl ≤ 12 ∧ 4 ≤ (smN b s j).jo := by
        obtain ⟨⟨x1, x2⟩, ⟨x3, x4⟩, ⟨x5, x6⟩⟩ := HB.out
        have hpa2 : (s - 1) / 4 + 1 ≤ 2 := by omega
        refine ⟨by show 3 * ((s - 1) / 4 + 1) + j + 6 ≤ 60; omega, ?_, x2, x5⟩
        show b * ((s - 1) / 4 + 1 + 2) ≤ 60
        have := Nat.mul_le_mul x2 (show (s - 1) / 4 + 1 + 2 ≤ 4 by omega)
        omega
      have hinv := play1_inv hI hp.ca.jg hp.ca.nx1 hB60.2.2.2 hnl hB60.2.2.1 hB60.1 hB60.2.1 (hi := hi) (lo := lo) (ba := ba) od
      have q1 : (k : Int) < (l.length : Int) := by omega
      have hrow : wr.rangeAt bl (off + k * 4) [.int .i64 od.dd, .int .i64 od.bb, .int .i64 od.nn, .int .i64 od.mm] := fun i u hu => by
        have hcell : ∀ o', (⟨bl, o', none⟩ : Addr).block < w.heap.size := fun o' => hbl
        rcases i with _ | _ | _ | _ | i
        · cases hu; exact (hp.be.cell (p := ⟨bl, off + k * 4, none⟩) hbl).trans hc0
        · cases hu; exact (hp.be.cell (p := ⟨bl, off + k * 4 + 1, none⟩) hbl).trans hc1
        · cases hu; exact (hp.be.cell (p := ⟨bl, off + k * 4 + 2, none⟩) hbl).trans hc2
        · cases hu; exact (hp.be.cell (p := ⟨bl, off + k * 4 + 3, none⟩) hbl).trans hc3
        · cases hu
      obtain ⟨dd, bb, nn, mm⟩ := od
      simp only at hrow hnk
      obtain ⟨nm, hnm⟩ := Int.eq_ofNat_of_zero_le hnk.1
      subst hnm
      obtain ⟨X1, hX1⟩ : ∃ X1, X1 = wr.alloc (.cells #[.int .i64 dd, .int .i64 bb, .int .i64 (nm : Int), .int .i64 mm] 173) := ⟨_, rfl⟩
      have huX : Upd (fun _ => False) wr X1 := by rw [hX1]; exact (Upd.refl _ wr).alloc _
      obtain ⟨ob, hob⟩ : ∃ ob, ob = wr.heap.size := ⟨_, rfl⟩
      have gO : X1.heap[ob]? = some (.cells #[.int .i64 dd, .int .i64 bb, .int .i64 (nm : Int), .int .i64 mm] 173 (0, 0)) := by rw [hX1, hob]; exact heap_alloc_last wr _ rfl
      have oO : own1 ob = 0 := hp.ca.far _ (by omega)
      have hp1 := hp.new huX
      have m1 := cell_of_block gO 1
      have hAA := HE.out.2.2.2.2.2.1
      have k0 := cell_of_block hp1.g0 0
      rw [← hAA] at k0
      simp at m1 k0
      have HP1 := Lib.hid (And.intro hp1 (And.intro gO oO))
      have HX1 := Lib.hid (And.intro hX1 hob)
      have HI := Lib.hid (And.intro hI (And.intro hnl (And.intro hnk (And.intro hpn (And.intro hinv hB60)))))
      have hut := Tryz.underlying173
      have hi4 := info173
      clear hpa hp hI hnl hbl hc0 hc1 hc2 hc3 hnk hpn hod hinv hX1 huX hob gO oO hp1 hAA hB60 hlt
      go_upto_region 9 with (first
        | (refine wpList_load_mid rfl _ _ rfl _ _ rfl _ _ hrow hut rfl hi4 ?_)
        | fail)
      rw [← HX1.out.1, ← HX1.out.2]
      go_cut [16] (fun s16 wx => s16 = .bool (decide (0 ≤ bb) && decide (bb < (b : Int))) ∧ wx = X1)
      case first =>
        by_cases h0 : 0 ≤ bb
        · have q2 : decide (bb ≥ 0) = true := by simpa using h0
          have q3 : decide (0 ≤ bb) = true := by simpa using h0
          go_wp2_with fail
          go_meet
          case rel => exact ⟨by rw [q3]; rfl, rfl⟩
        · have q2 : decide (bb ≥ 0) = false := by simpa using h0
          have q3 : decide (0 ≤ bb) = false := by simpa using h0
          go_wp2_with fail
          go_meet
          case rel => exact ⟨by rw [q3]; rfl, rfl⟩
      case rest =>
        obtain ⟨rfl, rfl⟩ := hcut
        generalize hth : (decide (0 ≤ bb) && decide (bb < (b : Int))) = th at *
        have HTH := Lib.hid hth
        have HDt := Lib.hid (wb_dirty HP1.out.1.ca)
        clear hth m1 k0 hrow hut hi4
        go_wp2_with fail
        refine HDt.out.mono ?_
        rintro e X2 ⟨v2, rfl, hs2, -, hb2⟩
        rw [List.length_map] at hs2
        obtain ⟨av, cv, rfl⟩ := hs2.rd.nil_iff
        obtain ⟨D, hD⟩ : ∃ D, D = (dirtL a.ps).length := ⟨_, rfl⟩
        rw [← hD]
        have hu2 : Upd (fun _ => False) wc X2 := Upd.of_below hb2
        have hp2 := HP1.out.1.new hu2
        have gO2 := hu2.blockv HP1.out.2.1
        have m0 := cell_of_block gO2 0
        have m1 := cell_of_block gO2 1
        have m2 := cell_of_block gO2 2
        have m3 := cell_of_block gO2 3
        simp at m0 m1 m2 m3
        have HP2 := Lib.hid (And.intro hp2 (And.intro gO2 hD))
        clear hs2 hb2 hu2 hp2 gO2 hD HDt
        by_cases d0 : dd = 0
        · subst d0
          as_aux_lemma =>
            obtain ⟨⟨a4, cd⟩, hR⟩ : ∃ R, R = a.wrote (smN b s j) bb (fillB nm) mm := ⟨_, rfl⟩
            have hpl : play1 (smN b s j) hi lo ba (a, now) ⟨0, bb, (nm : Int), mm⟩ = (a4, if cd = 0 ∧ 0 ≤ bb ∧ bb < (b : Int) then now.set bb.toNat (nm : Int) else now) := by
              show (( _, _) : CaS × List Int) = _
              dsimp only
              rw [Int.toNat_natCast, ← hR]
              rfl
            have HPL := Lib.hid (And.intro hpl hR)
            have HF := Lib.hid (fill_any nm (by have := HI.out.2.2.1.2; omega))
            clear hpl hR
            go_upto_region 13 with fail
            refine wp_region_held_drew (S := fun W => W.cell? ⟨ob, 1, none⟩ = some (.int .i64 bb) ∧ W.cell? ⟨ob, 2, none⟩ = some (.int .i64 (nm : Int)) ∧ W.cell? ⟨ob, 3, none⟩ = some (.int .i64 mm)) (by kernel_rfl) (⟨by rw [World.cell?_drew]; exact m1, by rw [World.cell?_drew]; exact m2, by rw [World.cell?_drew]; exact m3⟩) (fun hHeld => ?_)
            refine Wl.i [0, 1, 2, 3, 4, 6, 7] ?_; iterate 7 refine Wl.t hHeld ?_
            refine Wl.o ?_
            refine Wl.r 5 (fun K hK => ?_)
            go_simp
            refine (HF.out _).mono ?_
            rintro e X3 ⟨rfl, hb3⟩
            have hu3 := ((Upd.refl (fun _ => False) X2).drew).trans (Upd.of_below hb3)
            have H3 := Lib.hid (And.intro (HP2.out.1.new hu3) (hu3.blockv HP2.out.2.1))
            have n1 := hu3.cellv m1 (fun h => h)
            have n2 := hu3.cellv m2 (fun h => h)
            have n3 := hu3.cellv m3 (fun h => h)
            clear hu3 hb3 m1 m2 m3
            refine hK.out _ _ (⟨n1, n2, n3⟩) (fun hH1 => ?_)
            clear hK K
            refine Wl.r 8 (fun K hK => ?_)
            go_simp
            refine (ca_write H3.out.1.ca HI.out.1.fit (by have := HI.out.2.2.2.2.2.1; omega) HI.out.1.tie bb (fillB nm) (fillB_len _) mm).mono ?_
            rw [← HPL.out.2]
            dsimp only
            rintro e X4 ⟨rfl, own4, h4, e4⟩
            have H4 := Lib.hid (H3.out.1.did h4 e4)
            have m1 := e4.upd.cellv n1 (fun h => h.1 HP1.out.2.2)
            have m2 := e4.upd.cellv n2 (fun h => h.1 HP1.out.2.2)
            have m3 := e4.upd.cellv n3 (fun h => h.1 HP1.out.2.2)
            clear h4 e4
            refine hK.out _ _ (⟨m1, m2, m3⟩) (fun hH2 => ?_)
            clear hK K
            refine Wl.r 9 (fun K hK => ?_)
            go_simp
            refine hK.out _ _ (hH2) (fun hH3 => ?_)
            clear hK K
            refine Wl.d ?_
            clear hHeld hH1 hH2 n1 n2 n3 HF m0 m3
            by_cases hc : cd = 0
            · subst hc
              rcases Bool.eq_false_or_eq_true th with rfl | rfl
              · have hin : 0 ≤ bb ∧ bb < (b : Int) := by have := HTH.out; simpa using this
                have hpl := HPL.out.1
                rw [if_pos ⟨rfl, hin⟩] at hpl
                have HPL2 := Lib.hid hpl
                obtain ⟨bn, rfl⟩ := Int.eq_ofNat_of_zero_le hin.1
                have q5 : bn < 12 := by have := HB.out.1.2; omega
                have h5 := H4.out.note bn (nm : Int)
                rw [← HE.out.2.2.2.2.2.1] at h5
                have H5 := Lib.hid h5
                have z3 := now_cell H4.out (by rw [HI.out.2.1]; exact q5)
                rw [← HE.out.2.2.2.2.2.1] at z3
                replace z3 : X4.cell? ⟨A + 1 + 1 + 1, bn, none⟩ = some (.int .i64 (now.getD bn 0)) := z3
                have f3 := frozen_of_block H4.out.g3 bn
                rw [← HE.out.2.2.2.2.2.1] at f3
                replace f3 : X4.frozen? ⟨A + 1 + 1 + 1, bn, none⟩ = false := f3
                clear hpl hin h5
                go_wp2_with fail
                go_roundg (gk - 1)
                case measure => omega
                case rel =>
                  have h4 := HI.out.2.2.2.2.1
                  rw [HPL2.out] at h4
                  exact ⟨k + 1, by omega, by go_num, own4, _, _, (HI.out.2.2.2.1.trans HPL2.out).symm, H5.out, h4.1.mono (by omega), h4.2⟩
              · have hpl := HPL.out.1
                rw [if_neg (fun e => by have h7 := HTH.out; simp at h7; omega)] at hpl
                have HPL2 := Lib.hid hpl
                clear hpl
                go_wp2_with fail
                go_roundg (gk - 1)
                case measure => omega
                case rel =>
                  have h4 := HI.out.2.2.2.2.1
                  rw [HPL2.out] at h4
                  exact ⟨k + 1, by omega, by go_num, own4, _, _, (HI.out.2.2.2.1.trans HPL2.out).symm, H4.out, h4.1.mono (by omega), h4.2⟩
            · have hpl := HPL.out.1
              rw [if_neg (fun e => hc e.1)] at hpl
              have HPL2 := Lib.hid hpl
              have q5 : (cd == 0) = false := by simpa using hc
              clear hpl
              go_wp2_with fail
              go_roundg (gk - 1)
              case measure => omega
              case rel =>
                have h4 := HI.out.2.2.2.2.1
                rw [HPL2.out] at h4
                exact ⟨k + 1, by omega, by go_num, own4, _, _, (HI.out.2.2.2.1.trans HPL2.out).symm, H4.out, h4.1.mono (by omega), h4.2⟩
        by_cases d1 : dd = 1
        · subst d1
          as_aux_lemma =>
            obtain ⟨⟨a4, cd⟩, hR⟩ : ∃ R, R = a.gone (smN b s j) bb := ⟨_, rfl⟩
            have hpl : play1 (smN b s j) hi lo ba (a, now) ⟨1, bb, (nm : Int), mm⟩ = (a4, if cd = 0 ∧ 0 ≤ bb ∧ bb < (b : Int) then now.set bb.toNat 0 else now) := by
              show (( _, _) : CaS × List Int) = _
              dsimp only
              rw [← hR]
              rfl
            have HPL := Lib.hid (And.intro hpl hR)
            have HC := Lib.hid (ca_discard HP2.out.1.ca HI.out.1.fit (by have h9 := HI.out.2.2.2.2.2.1; omega) HI.out.1.tie bb)
            clear hpl hR
            go_wp2_with fail
            refine HC.out.mono ?_
            rw [← HPL.out.2]
            dsimp only
            rintro e X4 ⟨rfl, own4, h4, e4⟩
            have H4 := Lib.hid (HP2.out.1.did h4 e4)
            have n1 := e4.upd.cellv m1 (fun h => h.1 HP1.out.2.2)
            clear h4 e4 HC m0 m1 m2 m3
            have m1 := n1
            clear n1
            by_cases hc : cd = 0
            · subst hc
              rcases Bool.eq_false_or_eq_true th with rfl | rfl
              · have hin : 0 ≤ bb ∧ bb < (b : Int) := by have := HTH.out; simpa using this
                have hpl := HPL.out.1
                rw [if_pos ⟨rfl, hin⟩] at hpl
                have HPL2 := Lib.hid hpl
                obtain ⟨bn, rfl⟩ := Int.eq_ofNat_of_zero_le hin.1
                have q5 : bn < 12 := by have := HB.out.1.2; omega
                have h5 := H4.out.note bn 0
                rw [← HE.out.2.2.2.2.2.1] at h5
                have H5 := Lib.hid h5
                have z3 := now_cell H4.out (by rw [HI.out.2.1]; exact q5)
                rw [← HE.out.2.2.2.2.2.1] at z3
                replace z3 : X4.cell? ⟨A + 1 + 1 + 1, bn, none⟩ = some (.int .i64 (now.getD bn 0)) := z3
                have f3 := frozen_of_block H4.out.g3 bn
                rw [← HE.out.2.2.2.2.2.1] at f3
                replace f3 : X4.frozen? ⟨A + 1 + 1 + 1, bn, none⟩ = false := f3
                clear hpl hin h5
                go_wp2_with fail
                go_roundg (gk - 1)
                case measure => omega
                case rel =>
                  have h4 := HI.out.2.2.2.2.1
                  rw [HPL2.out] at h4
                  exact ⟨k + 1, by omega, by go_num, own4, _, _, (HI.out.2.2.2.1.trans HPL2.out).symm, H5.out, h4.1.mono (by omega), h4.2⟩
              · have hpl := HPL.out.1
                rw [if_neg (fun e => by have h7 := HTH.out; simp at h7; omega)] at hpl
                have HPL2 := Lib.hid hpl
                clear hpl
                go_wp2_with fail
                go_roundg (gk - 1)
                case measure => omega
                case rel =>
                  have h4 := HI.out.2.2.2.2.1
                  rw [HPL2.out] at h4
                  exact ⟨k + 1, by omega, by go_num, own4, _, _, (HI.out.2.2.2.1.trans HPL2.out).symm, H4.out, h4.1.mono (by omega), h4.2⟩
            · have hpl := HPL.out.1
              rw [if_neg (fun e => hc e.1)] at hpl
              have HPL2 := Lib.hid hpl
              have q5 : (cd == 0) = false := by simpa using hc
              clear hpl
              go_wp2_with fail
              go_roundg (gk - 1)
              case measure => omega
              case rel =>
                have h4 := HI.out.2.2.2.2.1
                rw [HPL2.out] at h4
                exact ⟨k + 1, by omega, by go_num, own4, _, _, (HI.out.2.2.2.1.trans HPL2.out).symm, H4.out, h4.1.mono (by omega), h4.2⟩
        by_cases d2 : dd = 2
        · subst d2
          as_aux_lemma =>
            obtain ⟨⟨a4, dn, cd⟩, hR⟩ : ∃ R, R = a.wstep (smN b s j) (nm : Int) := ⟨_, rfl⟩
            have hpl : play1 (smN b s j) hi lo ba (a, now) ⟨2, bb, (nm : Int), mm⟩ = (a4, now) := by
              show ((_, _) : CaS × List Int) = _
              dsimp only
              rw [← hR]
            have HPL := Lib.hid (And.intro hpl hR)
            have HS2 := Lib.hid (HI.out.1.step HP2.out.1.ca.nx1 (nm : Int))
            have HC := Lib.hid (wb_step HP2.out.1.ca HI.out.1.fit (by have h9 := HI.out.2.2.2.2.2.2.1; omega) HI.out.1.tie (nm : Int))
            clear hpl hR
            go_wp2_with fail
            refine HC.out.mono ?_
            rw [← HPL.out.2]
            dsimp only
            rintro e X4 ⟨rfl, own4, h4, e4⟩
            have H4 := Lib.hid (HP2.out.1.did h4 e4)
            have n2 := e4.upd.cellv m2 (fun h => h.1 HP1.out.2.2)
            clear h4 e4 HC m0 m1 m2 m3
            have m2 := n2
            clear n2
            by_cases hz : nm = 0
            · have hy := HS2.out.2.1 (by omega)
              rw [← HPL.out.2] at hy
              simp only [Prod.mk.injEq] at hy
              obtain ⟨hy1, hy2, hy3⟩ := hy
              subst hy2 hy3 hz
              go_wp2_with fail
              go_roundg (gk - 1)
              case measure => omega
              case rel =>
                have h4 := HI.out.2.2.2.2.1
                rw [HPL.out.1] at h4
                exact ⟨k + 1, by omega, by go_num, own4, _, _, (HI.out.2.2.2.1.trans HPL.out.1).symm, H4.out, h4.1.mono (by omega), h4.2⟩
            · have hy := HS2.out.2.2 (by omega)
              rw [← HPL.out.2] at hy
              dsimp only at hy
              obtain ⟨hy1, hy2, hy3⟩ := hy
              subst hy1
              have hD := HP2.out.2.2
              obtain ⟨x, hx⟩ : ∃ x, x = D - dn := ⟨_, rfl⟩
              have hl5 : (dirtL a4.ps).length = x := by rw [hx, hy3, List.length_drop, hy2, hD]
              have hD12 : D ≤ 12 := by
                have h6 := dirtL_len a.ps
                rw [HP2.out.1.ca.pl] at h6
                have h7 := HI.out.2.2.2.2.2.2.2.1
                omega
              rw [Int.toNat_natCast, ← hD] at hy2
              have q9 : (x : Int) = (D : Int) - (dn : Int) := by omega
              have q10 : (D : Int) ≤ 12 := by omega
              have q5 : ¬ ((nm : Int) < 1) := by omega
              have q6 : (1 : Int) ≤ (nm : Int) := by omega
              have HDt := Lib.hid (wb_dirty H4.out.ca)
              have HL5 := Lib.hid hl5
              clear hy3 hl5 hD hx hD12
              have HX : Hid (∀ X5, Below X4.heap.size X4 X5 → PlAt w b s j hi lo ba c (smN b s j) p own4 X5 a4 now) := Lib.hid (fun X5 hb5 => H4.out.new (Upd.of_below hb5))
              by_cases hle : D ≤ nm
              · have hdn : dn = D := by omega
                subst hdn
                have q7 : (dn : Int) ≤ (nm : Int) := by omega
                clear hy2 hle hz
                go_wp2_with fail
                refine HDt.out.mono ?_
                rintro e X5 ⟨v5, rfl, hs5, -, hb5⟩
                rw [List.length_map] at hs5
                obtain ⟨av5, cv5, rfl⟩ := hs5.rd.nil_iff
                have H5 := Lib.hid (HX.out X5 hb5)
                rw [HL5.out]
                clear hs5 hb5
                go_wp2_with fail
                go_roundg (gk - 1)
                case measure => omega
                case rel =>
                  have h4 := HI.out.2.2.2.2.1
                  rw [HPL.out.1] at h4
                  exact ⟨k + 1, by omega, by go_num, own4, _, _, (HI.out.2.2.2.1.trans HPL.out.1).symm, H5.out, h4.1.mono (by omega), h4.2⟩
              · have hdn : dn = nm := by omega
                subst hdn
                have q7 : ¬ (D : Int) ≤ (dn : Int) := by omega
                have q8 : (dn : Int) < (D : Int) := by omega
                clear hy2 hle hz
                go_wp2_with fail
                refine HDt.out.mono ?_
                rintro e X5 ⟨v5, rfl, hs5, -, hb5⟩
                rw [List.length_map] at hs5
                obtain ⟨av5, cv5, rfl⟩ := hs5.rd.nil_iff
                have H5 := Lib.hid (HX.out X5 hb5)
                rw [HL5.out]
                clear hs5 hb5
                go_wp2_with fail
                go_roundg (gk - 1)
                case measure => omega
                case rel =>
                  have h4 := HI.out.2.2.2.2.1
                  rw [HPL.out.1] at h4
                  exact ⟨k + 1, by omega, by go_num, own4, _, _, (HI.out.2.2.2.1.trans HPL.out.1).symm, H5.out, h4.1.mono (by omega), h4.2⟩
        by_cases d3 : dd = 3
        · subst d3
          as_aux_lemma =>
            obtain ⟨⟨a4, dn, cd⟩, hR⟩ : ∃ R, R = a.tick (smN b s j) hi lo ba := ⟨_, rfl⟩
            have hpl : play1 (smN b s j) hi lo ba (a, now) ⟨3, bb, (nm : Int), mm⟩ = (a4, now) := by
              show ((_, _) : CaS × List Int) = _
              dsimp only
              rw [← hR]
            have HPL := Lib.hid (And.intro hpl hR)
            have HS2 := Lib.hid (HI.out.1.tick HP2.out.1.ca.nx1 hi lo ba)
            have HC := Lib.hid (wb_tick HP2.out.1.ca HI.out.1.fit (by have h9 := HI.out.2.2.2.2.2.2.1; omega) HI.out.1.tie hi lo ba)
            have g1 := HP2.out.1.g1
            have g0 := HP2.out.1.g0
            rw [← HE.out.2.2.2.2.2.1] at g1 g0
            have r1 := range_of_block g1
            have p0 := cell_of_block g1 0
            have p1 := cell_of_block g1 1
            have p2 := cell_of_block g1 2
            have p3 := cell_of_block g0 1
            simp at p0 p1 p2 p3
            have z1 := HP2.out.1.z (A + 1) (by rw [HE.out.2.2.2.2.2.1]; omega)
            have z0 := HP2.out.1.z A (by rw [HE.out.2.2.2.2.2.1]; omega)
            have HZ := Lib.hid (And.intro z1 z0)
            have hut := Tryz.underlying94
            have hsi : (Tryz.prog.info? 94).map (·.size) = some 3 := by kernel_rfl
            clear hpl hR g1 g0 z0 z1
            go_wp2_with (first
              | (refine wpList_load_mid rfl _ _ rfl _ _ rfl _ _ r1 hut rfl hsi ?_)
              | fail)
            refine HC.out.mono ?_
            rw [← HPL.out.2]
            dsimp only
            rintro e X4 ⟨rfl, own4, h4, e4⟩
            have H4 := Lib.hid (HP2.out.1.did h4 e4)
            have n0 := e4.upd.cellv p0 (fun h => h.1 HZ.out.1)
            have n1 := e4.upd.cellv p1 (fun h => h.1 HZ.out.1)
            have n2 := e4.upd.cellv p2 (fun h => h.1 HZ.out.1)
            have n3 := e4.upd.cellv p3 (fun h => h.1 HZ.out.2)
            clear h4 e4 HC m0 m1 m2 m3 p0 p1 p2 p3 r1 hut hsi HZ
            have HRT := Lib.hid (ref_tick hi lo ba D X4)
            have HRR := Lib.hid (ref_right hi lo ba (s : Int) X4)
            obtain ⟨tw, htw⟩ : ∃ tw, tw = tickW hi lo ba D := ⟨_, rfl⟩
            rw [← htw] at HRT
            have HTW := Lib.hid htw
            clear htw
            by_cases hr : rightP hi lo ba (s : Int)
            · rw [decide_eq_true hr] at HRR
              have hy := HS2.out.2.2 hr
              rw [← HPL.out.2] at hy
              dsimp only at hy
              obtain ⟨hy1, hy2, hy3⟩ := hy
              subst hy1
              have hD := HP2.out.2.2
              rw [← hD] at hy2
              have hD12 : D ≤ 12 := by
                have h6 := dirtL_len a.ps
                rw [HP2.out.1.ca.pl] at h6
                have h7 := HI.out.2.2.2.2.2.2.2.1
                omega
              obtain ⟨v1, v2, v3, v4, v5⟩ := hr
              have h8 := HB.out.2.1.2
              have htw : tw = (dn : Int) := by rw [HTW.out, tickW_eq (by omega) (by omega), hy2]
              subst htw
              have hdD : (dn : Int) ≤ (D : Int) ∧ 0 ≤ (dn : Int) := by rw [hy2]; unfold tickN; split <;> (try split) <;> omega
              obtain ⟨x, hx⟩ : ∃ x, x = D - dn := ⟨_, rfl⟩
              have hl5 : (dirtL a4.ps).length = x := by rw [hx, hy3, List.length_drop, hD]
              have q9 : (x : Int) = (D : Int) - (dn : Int) := by omega
              have q10 : (D : Int) ≤ 12 := by omega
              have q11 := hdD.1
              have HDt := Lib.hid (wb_dirty H4.out.ca)
              have HL5 := Lib.hid hl5
              clear hy2 hy3 hl5 hD hx hD12 v1 v2 v3 v4 v5 h8 hdD
              have HX : Hid (∀ X5, Below X4.heap.size X4 X5 → PlAt w b s j hi lo ba c (smN b s j) p own4 X5 a4 now) := Lib.hid (fun X5 hb5 => H4.out.new (Upd.of_below hb5))
              go_wp2_with fail
              refine HRT.out.mono ?_
              rintro e _ ⟨rfl, rfl⟩
              go_wp2_with fail
              refine HRR.out.mono ?_
              rintro e _ ⟨rfl, rfl⟩
              go_wp2_with fail
              refine HDt.out.mono ?_
              rintro e X5 ⟨v5, rfl, hs5, -, hb5⟩
              rw [List.length_map] at hs5
              obtain ⟨av5, cv5, rfl⟩ := hs5.rd.nil_iff
              have H5 := Lib.hid (HX.out X5 hb5)
              rw [HL5.out]
              clear hs5 hb5
              go_wp2_with fail
              go_roundg (gk - 1)
              case measure => omega
              case rel =>
                have h4 := HI.out.2.2.2.2.1
                rw [HPL.out.1] at h4
                exact ⟨k + 1, by omega, by go_num, own4, _, _, (HI.out.2.2.2.1.trans HPL.out.1).symm, H5.out, h4.1.mono (by omega), h4.2⟩
            · rw [decide_eq_false hr] at HRR
              have hy := HS2.out.2.1 hr
              rw [← HPL.out.2] at hy
              simp only [Prod.mk.injEq] at hy
              obtain ⟨hy1, hy2, hy3⟩ := hy
              subst hy2 hy3
              clear hr
              go_wp2_with fail
              refine HRT.out.mono ?_
              rintro e _ ⟨rfl, rfl⟩
              go_wp2_with fail
              refine HRR.out.mono ?_
              rintro e _ ⟨rfl, rfl⟩
              go_wp2_with fail
              go_roundg (gk - 1)
              case measure => omega
              case rel =>
                have h4 := HI.out.2.2.2.2.1
                rw [HPL.out.1] at h4
                exact ⟨k + 1, by omega, by go_num, own4, _, _, (HI.out.2.2.2.1.trans HPL.out.1).symm, H4.out, h4.1.mono (by omega), h4.2⟩
        by_cases d4 : dd = 4
        · subst d4
          as_aux_lemma =>
            have q5 : ((4 : Int) == 0) = false := by decide
            have HC := Lib.hid (ca_ccommit HP2.out.1.ca HI.out.1.fit.w1 (by have h5 := HP2.out.1.ca.jg.len; have h6 := HI.out.1.fit.dO; have h7 : (smN b s j).jo ≤ 12 := HB.out.2.2.2; omega))
            have hpl : play1 (smN b s j) hi lo ba (a, now) ⟨4, bb, (nm : Int), mm⟩ = ((a.committed (smN b s j)).1, now) := rfl
            have HPL := Lib.hid hpl
            clear hpl
            go_wp2_with fail
            refine HC.out.mono ?_
            rintro e X3 ⟨rfl, own3, h3, e3⟩
            have H3 := Lib.hid (HP2.out.1.did h3 e3)
            clear h3 e3 HC m0 m1 m2 m3
            go_wp2
            go_roundg (gk - 1)
            case measure => omega
            case rel =>
              have h4 := HI.out.2.2.2.2.1
              rw [HPL.out] at h4
              exact ⟨k + 1, by omega, by go_num, own3, _, _, (HI.out.2.2.2.1.trans HPL.out).symm, H3.out, h4.1.mono (by omega), h4.2⟩
        · have q5 : (dd == 0) = false := by simpa using d0
          have q6 : (dd == 1) = false := by simpa using d1
          have q7 : (dd == 2) = false := by simpa using d2
          have q8 : (dd == 3) = false := by simpa using d3
          have q9 : (dd == 4) = false := by simpa using d4
          have hpl : play1 (smN b s j) hi lo ba (a, now) ⟨dd, bb, (nm : Int), mm⟩ = (a, now) := by
            unfold play1
            dsimp only
            rw [if_neg d0, if_neg d1, if_neg d2, if_neg d3, if_neg d4]
          have HPL := Lib.hid hpl
          clear hpl d0 d1 d2 d3 d4
          go_wp2
          go_roundg (gk - 1)
          case measure => omega
          case rel =>
            have h4 := HI.out.2.2.2.2.1
            rw [HPL.out] at h4
            exact ⟨k + 1, by omega, by go_num, own1, _, _, (HI.out.2.2.2.1.trans HPL.out).symm, HP2.out.1, h4.1.mono (by omega), h4.2⟩
    · obtain rfl : k = l.length := by omega
      have hfin := hp.fin (List.map (Value.int .i64) now)
      have g2 := hp.g2
      have g3 := hp.g3
      rw [← HE.out.2.2.2.2.2.1] at g2 g3 hfin
      have r3 := range_of_block g3
      have t2 : wr.there (A + 2) 0 12 := fun i hi => ⟨by
        rw [cell_of_block g2]
        simp
        omega, frozen_of_block g2 _⟩
      rw [List.take_length] at hpa
      have hf1 : (List.map (Value.int .i64) now).toArray.size = 12 := by simp [hnl]
      have hf2 : (List.map (Value.int .i64) now).length = 12 := by simp [hnl]
      have hf3 : ∀ v ∈ List.map (Value.int .i64) now, v.oneCell' = true := fun v hv => by
        obtain ⟨x, -, rfl⟩ := List.mem_map.1 hv
        rfl
      obtain ⟨NL, hNL⟩ : ∃ NL, NL = List.map (Value.int .i64) now := ⟨_, rfl⟩
      have hLz := range_of_block g3
      rw [← hNL] at hf1 hf2 hf3 hfin r3
      have HF := Lib.hid (And.intro hfin (And.intro hpa (And.intro hI (And.intro hnl (And.intro hNL (And.intro hf1 (And.intro hf2 hf3)))))))
      have HT := Lib.hid (And.intro r3 t2)
      have HZ : Hid (∀ i, i < w.heap.size → own1 i = 0) := Lib.hid (fun i hi => hp.z i (by omega))
      have q1 : ¬ ((l.length : Int) < (l.length : Int)) := by omega
      have hut := Tryz.underlying64
      have hsi : (Tryz.prog.info? 64).map (·.size) = some NL.length := by rw [hf2]; exact info64
      clear hfin hpa hI hnl hNL hf1 hf2 hf3 hp g2 g3 r3 t2 hlt hk hLz
      go_upto_region 34 with fail
      as_aux_lemma =>
        refine wp_region_held_drew (S := fun W => W.rangeAt (A + 3) 0 NL) (by kernel_rfl) (by rw [World.rangeAt_drew]; exact HT.out.1) (fun hHeld => ?_)
        refine Wl.i [0, 1] ?_; iterate 2 refine Wl.t hHeld ?_
        refine Wl.o ?_
        refine Wl.l 2 (fun w h => h) hut hsi hHeld ?_
        refine Wl.r 3 (fun K hK => ?_)
        go_simp
        refine hK.out _ _ (hHeld) (fun hH1 => ?_)
        clear hK K
        refine Wl.r 4 (fun K hK => ?_)
        go_simp
        refine hK.out _ _ (hH1) (fun hH2 => ?_)
        clear hK K
        refine Wl.r 5 (fun K hK => ?_)
        refine wp_store_mid _ _ _ rfl (A + 2) 0 NL.toArray rfl rfl ?_ ?_ ?_ ?_
        · intro i hi; rw [World.cell?_drew]; exact HT.out.2 i (by rw [HF.out.2.2.2.2.2.1] at hi; exact hi)
        · rw [HF.out.2.2.2.2.2.1]; exact info64
        · exact all_oneCell_toArray HF.out.2.2.2.2.2.2.2
        try simp only [Act.put]
        refine hK.out _ _ ((upd_row _ (A + 2) 0 _).range hH2 (by omega)) (fun hH3 => ?_)
        clear hK K
        refine Wl.r 6 (fun K hK => ?_)
        go_simp
        refine hK.out _ _ (hH3) (fun hH4 => ?_)
        clear hK K
        refine Wl.d ?_
        go_wp2
        exact bodyPost_ret (results_mix4 rfl _ _ (A + 2) 0 NL _ rfl (World.rangeAt_setCells_same _ _ _ _ (fun i hi => by rw [World.cell?_drew]; exact HT.out.2 i (by rw [HF.out.2.2.2.2.2.2.1] at hi; exact hi))) hut rfl hsi) rfl ⟨c, p, own1, by rw [← HF.out.2.1, ← HF.out.2.2.2.2.1]; rfl, by rw [← HF.out.2.1]; exact HF.out.1.1, by rw [← HF.out.2.1]; exact HF.out.2.2.1, by rw [← HF.out.2.1]; exact HF.out.2.2.2.1, by rw [← HE.out.2.2.2.2.2.1]; exact HF.out.1.2, HZ.out⟩
theorem wpList_load_midW {P : Program} {ops : Array Oper} {rest : List Oper} {op : Oper} {a : Act} {w : World} {Q : Exit → Act → World → Prop} (hw : Region.wanted op (yielded ops a.tmps) = true) (ty : TypeId) (x : Operand) (ho : op.op = .load ty x)
    (b o : Nat) (hx : a.eval x = .pointer (some ⟨b, o, none⟩)) (cs : List Value) (d : TypeDesc) (hc : w.rangeAt b o cs)
    (hu : P.underlying ty = some d) (hd : d.isRow = true) (hi : (P.info? ty).map (·.size) = some cs.length)
    (h : wpList P ops Q rest (a.put op.dst (.agg cs.toArray)) w) : wpList P ops Q (op :: rest) a w :=
  wpList_step fun K hK => by rw [if_pos hw]; exact wp_load_mid ty x ho b o hx cs d hc hu hd hi (hK _ _ h)
theorem CaAt.beside {own own' own2 : Nat → Nat} {w w' : World} {c2 : Nat} {n2 : CaN} {p2 : CaP} {a2 : CaS} (h2 : CaAt own2 w c2 n2 p2 a2) (d : Did own own' w w') (hn : own 0 = 0 ∧ own 1 = 0)
    (hd : ∀ i, own i ≠ 0 → own2 i = 0) : CaAt own2 w' c2 n2 p2 a2 :=
  h2.nobody d.upd (fun i e => ⟨hd i e.1, fun e2 => e.1 (by rw [e2]; exact hn.1), fun e2 => e.1 (by rw [e2]; exact hn.2)⟩)
theorem intsC_one (now : List Int) : ∀ v ∈ now.map (Value.int .i64), v.oneCell' = true := fun v hv => by
  obtain ⟨x, -, rfl⟩ := List.mem_map.1 hv
  rfl
theorem info76 : (Tryz.prog.info? 76).map (·.size) = some 3 := by kernel_rfl
theorem info94 : (Tryz.prog.info? 94).map (·.size) = some 3 := by kernel_rfl
section
variable {H : Type} {enc : TypeId × Value → H} {P : Program} {W : World} {base : Nat} {sp : Nat → Bool} {held : Bool} {t e : TypeId} {n : Nat} {q : IntKind}
theorem mapM_ints (he : P.underlying e = some (.int q)) {m : Nat} {cs : List Value} : ∀ (L : List Nat) (xs : List (DataW H × List MemPlace)),
    L.mapM (fun i => DataW.trod enc P W base sp held m e ((cs.drop (i * 1)).take 1)) = some xs →
    ∃ l : List Int, l.length = L.length ∧ xs = l.map (fun x => (.lit (.int q x), [])) ∧ (∀ x ∈ l, (Lit.int q x).wf = true) ∧ ∀ (p i : Nat), L[p]? = some i → cs[i]? = (l[p]?).map (Value.int q)
  | [], xs, h => by
    simp at h
    subst h
    exact ⟨[], rfl, rfl, fun _ h => by simp at h, fun _ _ h => by simp at h⟩
  | i :: L, xs, h => by
    rw [List.mapM_cons] at h
    simp only [bind, Option.bind_eq_some_iff, pure, Option.some.injEq] at h
    obtain ⟨y, hy, ys, hys, rfl⟩ := h
    obtain ⟨l, h1, rfl, h3, h4⟩ := mapM_ints he L ys hys
    obtain ⟨a, ea, rfl, wa⟩ := DataW.trod_int he hy
    refine ⟨a :: l, by simp [h1], rfl, fun x hx => ?_, fun p j hp => ?_⟩
    · rcases List.mem_cons.1 hx with rfl | hx
      · exact wa
      · exact h3 x hx
    · cases p with
      | zero =>
        simp at hp
        subst hp
        have : ((cs.drop (i * 1)).take 1)[0]? = some (.int q a) := by rw [ea]; rfl
        rw [List.getElem?_take_of_lt (by omega), List.getElem?_drop] at this
        simpa using this
      | succ p => simpa using h4 p j (by simpa using hp)
theorem open_arr_ints {r : Reach} {b0 : Nat} {v : Value} {d : DataW H} {ps : List MemPlace} (ht : P.underlying t = some (.array n e)) (he : P.underlying e = some (.int q)) (hc : P.cellsOf t = n) (he1 : P.cellsOf e = 1) (hval : Value.okWide P W r b0 t v) (hd : DataW.Trod enc P W base sp held t v d ps) :
    ∃ l : List Int, l.length = n ∧ v = .agg (l.map (Value.int q)).toArray ∧ d = .agg (l.map fun x => .lit (.int q x)) ∧ ps = [] ∧ ∀ x ∈ l, (Lit.int q x).wf = true := by
  simp only [Value.okWide, ht] at hval
  obtain ⟨cs, rfl, h2, -⟩ := hval
  rw [hc] at h2
  obtain ⟨fuel, hf⟩ := hd
  cases fuel with
  | zero => simp [DataW.trod] at hf
  | succ m =>
    rw [DataW.trod_step] at hf
    unfold DataW.trodStep at hf
    simp only [ht, Value.cells] at hf
    rw [if_pos (by rw [hc]; simpa using h2)] at hf
    simp only [Option.map_eq_some_iff, he1] at hf
    obtain ⟨ys, hy, e1⟩ := hf
    obtain ⟨l, h3, rfl, h5, h6⟩ := mapM_ints he _ ys hy
    rw [List.length_range] at h3
    simp only [Prod.mk.injEq] at e1
    refine ⟨l, h3, ?_, by rw [← e1.1]; simp [Function.comp_def], by rw [← e1.2]; simp [List.flatMap_eq_nil_iff], h5⟩
    congr 1
    apply Array.ext_getElem?
    intro i
    by_cases hi : i < n
    · have := h6 i i (by rw [List.getElem?_range hi])
      simpa using this
    · rw [Array.getElem?_eq_none (by omega), Array.getElem?_eq_none (by simp; omega)]
end
theorem tTab : Tryz.prog.globalNamed "lavabo/slots.turns" = some 1 := by kernel_rfl
theorem tTabType : (Tryz.prog.globals[1]?).map (·.type) = some 326 := by kernel_rfl
theorem tArr : Tryz.prog.underlying 326 = some (.array 5 3) := by kernel_rfl
theorem nTab : Tryz.prog.globalNamed "lavabo/crc.nibbles" = some 0 := by kernel_rfl
theorem nTabType : (Tryz.prog.globals[0]?).map (·.type) = some 304 := by kernel_rfl
theorem nArr : Tryz.prog.underlying 304 = some (.array 16 3) := by kernel_rfl
theorem laid_tail {P : Program} {W : World} {x : String × DataW Unit} {rest : List (String × DataW Unit)} (h : laidMet P (x :: rest) W) : laidMet P rest W := by
  obtain ⟨ps, ⟨g', t', cs, fuel, p, q, hg', ht', hvar, hd, hq, rfl⟩, hn, ha⟩ := h
  exact ⟨q, hq, (List.nodup_append.1 hn).2.1, fun b off hm => ha b off (List.mem_append_right _ hm)⟩
theorem tabs17 {W : World} (h : laidMetH Tryz.prog [("lavabo/crc.nibbles", Rows.laid_lavabo_crc_nibbles), ("lavabo/slots.turns", Rows.laid_lavabo_slots_turns)] W) : Nib W ∧ Tur W := by
  have h' : laidMet Tryz.prog [("lavabo/crc.nibbles", Rows.laid_lavabo_crc_nibbles), ("lavabo/slots.turns", Rows.laid_lavabo_slots_turns)] W := h
  have hn : Lib.TabIs Tryz.prog W "lavabo/crc.nibbles" .i64 (nibT.map Int.ofNat) := Lib.tabIs_of_head (rest := [("lavabo/slots.turns", Rows.laid_lavabo_slots_turns)]) nTab nTabType nArr Tryz.underlying3 (by kernel_rfl) (by kernel_rfl) h'
  have ht : Lib.TabIs Tryz.prog W "lavabo/slots.turns" .i64 [2, 28, 24, 17, 0] := Lib.tabIs_of_head (rest := []) tTab tTabType tArr Tryz.underlying3 (by kernel_rfl) (by kernel_rfl) (laid_tail h')
  refine ⟨⟨fun i hi => ?_⟩, ht.cell tTab 0 (by decide), ht.cell tTab 1 (by decide), ht.cell tTab 2 (by decide), ht.cell tTab 3 (by decide), ht.cell tTab 4 (by decide)⟩
  have hl : (nibT.map Int.ofNat).length = 16 := by decide
  have := hn.cell nTab i (by rw [hl]; exact hi)
  rw [this]
  have e : (nibT.map Int.ofNat).getD i 0 = (nibC i : Int) := by
    unfold nibC
    rw [List.getD_eq_getElem?_getD, List.getD_eq_getElem?_getD, List.getElem?_map]
    cases nibT[i]? <;> rfl
  rw [e]
def layT : Obj → Obj
  | .cells _ t frozen => .cells #[.int .i64 2, .int .i64 28, .int .i64 24, .int .i64 17, .int .i64 0] t frozen
  | o => o
def layN : Obj → Obj
  | .cells _ t frozen => .cells #[.int .i64 0, .int .i64 274646895, .int .i64 549293790, .int .i64 820201905, .int .i64 1098587580, .int .i64 1361435347, .int .i64 1640403810, .int .i64 1905808397, .int .i64 2197175160, .int .i64 2460548119, .int .i64 2722870694, .int .i64 2987750089, .int .i64 3280807620, .int .i64 3553878443, .int .i64 3811616794, .int .i64 4084100981] t frozen
  | o => o
noncomputable def laidWorld (os : Os) : World :=
  { World.holding Tryz.prog os ⟨#[], #[], []⟩ with heap := (((World.holding Tryz.prog os ⟨#[], #[], []⟩).heap.modify 1 layT).modify 0 layN) }
theorem wf_in {x : Int} (h : (Lit.int .i64 x).wf = true) : -9223372036854775808 ≤ x ∧ x < 9223372036854775808 := by
  have e1 : IntKind.i64.min = -9223372036854775808 := by decide
  have e2 : IntKind.i64.max = 9223372036854775807 := by decide
  simp only [Lit.wf, e1, e2, Bool.and_eq_true, decide_eq_true_eq] at h
  omega
end Go.Proofs.YtnadilfobmgebaaGreatDoor
