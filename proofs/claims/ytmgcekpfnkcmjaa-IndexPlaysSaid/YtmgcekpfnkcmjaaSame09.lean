/- 'same': the index is the document's. -/
import Derived.Test.YtmgcekpfnkcmjaaAll09
import Derived.Deep.RegionHeld3
namespace Go.Proofs.Ytmgcekpfnkcmjaa
open Go Go.RowKit

set_option maxRecDepth 100000 in
set_option maxHeartbeats 4000000 in
theorem same9 {w : World} {b mb N : Nat} {v : Value} {ps : List (Int × Bool)} {slots : Nat} {rb : Nat} {vs vd : Value} (h : IndexAt w b v mb N ps slots) (hr : RefAt w rb vs vd ps slots) (hpos : 0 < ps.length) :
    Calls Try.prog 21 #[.pointer (some ⟨b, 0, none⟩), .pointer (some ⟨rb, 0, none⟩)] w fun e w' => e = .returned (.bool true) ∧ Below w.heap.size w w' := by
  have hle := h.le
  have hsl := h.sl1
  have HG : Hid (Good ps slots) := h.good
  have hvis : vis (spanL ps 0 4096) 0 = visTo ps 0 ps.length := by rw [span_all hle]
  have hC := rcount_any hr h.good
  have hL := len_any h hpos
  rw [hvis] at hL
  have HD0 : Hid (∀ {w : World}, IndexAt w b v mb N ps slots → Calls Try.prog 25 #[.pointer (some ⟨b, 0, none⟩)] w fun e w' => e = .returned (.int .i64 (cntD (visTo ps 0 ps.length) : Int)) ∧ Below w.heap.size w w') := fun h => by have := dirty_any h hpos; rw [hvis] at this; exact this
  generalize (visTo ps 0 ps.length).length = n1 at hC hL
  generalize cntD (visTo ps 0 ps.length) = n2 at hC HD0
  have HC := Lib.hid hC
  have HL := Lib.hid hL
  have HI := Lib.hid h
  have HR := Lib.hid hr
  clear hC hL h hr hvis
  go_enter Try.func21, Try.ntmps21
  go_wp2_with fail
  refine HC.out.mono ?_
  rintro e w0 ⟨rfl, rfl⟩
  go_wp2_with fail
  refine HL.out.mono ?_
  rintro e w1 ⟨rfl, hb1⟩
  have hI1 := HI.out.below hb1
  have hR1 := HR.out.below hb1
  clear HC HL HI HR
  go_wp2_with fail
  refine (HD0.out hI1).mono ?_
  rintro e w2 ⟨rfl, hb2⟩
  have hI2 := hI1.below hb2
  have hR2 := hR1.below hb2
  have hB2 := hb1.trans (hb2.mono hb1.size)
  clear hI1 hR1 hb1 hb2 HD0
  go_wp2_with fail
  refine (all9 hI2 hR2 0 4096 (by decide) (by decide)).mono ?_
  rintro e w3 ⟨rfl, hb3⟩
  have hI3 := hI2.below hb3
  have hR3 := hR2.below hb3
  have hB3 := hB2.trans (hb3.mono hB2.size)
  clear hI2 hR2 hb3 hB2
  go_wp2_with fail
  go_loopg [7] (ps.length + 2) (fun g i wr => ∃ z : Int, (g : Int) = ps.length + 1 - z ∧ -1 ≤ z ∧ z ≤ ps.length + 1 ∧ i = .int .i64 z ∧ IndexAt wr b v mb N ps slots ∧ RefAt wr rb vs vd ps slots ∧ Below w0.heap.size w0 wr)
  case atStart => exact ⟨-1, by omega, by omega, by omega, rfl, hI3, hR3, hB3⟩
  case round =>
    clear hI3 hR3 hB3
    obtain ⟨z, hgz, hz1, hz2, rfl, hI, hR, hB⟩ := hrel
    have hg0 := cell_of_block hR.str 0
    simp at hg0
    obtain ⟨so, sc, hvs⟩ := hR.ss.rd.nil_iff
    subst hvs
    by_cases hzl : z ≤ ps.length
    · have hgx := get_any hI z
      have HI := Lib.hid hI
      have HRr := Lib.hid hR
      rcases getC_cases HG.out z with ⟨ho, hc⟩ | ⟨m, hm, rfl, hp, hc⟩ | ⟨m, hm, rfl, hp, hc, hv⟩
      · rw [hc, getV_bad (by rw [hc]; decide)] at hgx
        have HX := Lib.hid hgx
        have hfz : decide (0 ≤ z ∧ z < (ps.length : Int)) = false := by simp; omega
        clear hgx hc hI hR ho
        go_wp2_with fail
        refine HX.out.mono ?_
        rintro e w4 ⟨rfl, hb4⟩
        have hu4 : Upd (fun _ => False) wr (w4.alloc (.cells #[.int .i64 0, .bool false] 36)) := (Upd.of_below hb4).alloc _
        have hR4 := HRr.out.keep hu4 (fun h => h) (fun _ _ h => h)
        have hrt := right_any hR4 z
        rw [hfz] at hrt
        have HRT := Lib.hid hrt
        have HU4 := Lib.hid hu4
        clear hb4 hu4 hR4 hrt HX hfz
        go_wp2_with fail
        refine HRT.out.mono ?_
        rintro e w5 ⟨rfl, rfl⟩
        go_wp2
        go_roundg (gk - 1)
        case measure => omega
        case rel => exact ⟨z + 1, by omega, by omega, by omega, by go_num, HI.out.keep HU4.out (fun h => h) (fun _ _ h => h), HRr.out.keep HU4.out (fun h => h) (fun _ _ h => h), below_upd hB HU4.out (Nat.le_refl _) (fun _ h => h.elim)⟩
      · rw [hc, getV_bad (by rw [hc]; decide)] at hgx
        have HX := Lib.hid hgx
        have hfz : decide (0 ≤ (m : Int) ∧ (m : Int) < (ps.length : Int)) = true := by simp; omega
        have HP := Lib.hid hp
        clear hgx hc hI hR hp
        go_wp2_with fail
        refine HX.out.mono ?_
        rintro e w4 ⟨rfl, hb4⟩
        have hu4 : Upd (fun _ => False) wr (w4.alloc (.cells #[.int .i64 0, .bool false] 36)) := (Upd.of_below hb4).alloc _
        have hR4 := HRr.out.keep hu4 (fun h => h) (fun _ _ h => h)
        have hrt := right_any hR4 m
        rw [hfz] at hrt
        have HRT := Lib.hid hrt
        have HU4 := Lib.hid hu4
        have g4 := cell_of_block hR4.str 0
        simp at g4
        obtain ⟨gs, os, cs, gd, od, cd, hv1, _, ⟨p0, _⟩, _, _, _⟩ := hR4.at hm
        cases hv1
        rw [HP.out] at p0
        clear hb4 hu4 hR4 hrt HX hfz
        go_wp2_with fail
        refine HRT.out.mono ?_
        rintro e w5 ⟨rfl, rfl⟩
        go_wp2
        go_roundg (gk - 1)
        case measure => omega
        case rel => exact ⟨(m : Int) + 1, by omega, by omega, by omega, by go_num, HI.out.keep HU4.out (fun h => h) (fun _ _ h => h), HRr.out.keep HU4.out (fun h => h) (fun _ _ h => h), below_upd hB HU4.out (Nat.le_refl _) (fun _ h => h.elim)⟩
      · rw [hc, hv] at hgx
        obtain ⟨q, hq⟩ : ∃ q, q = ps[m] := ⟨_, rfl⟩
        rw [← hq] at hgx hp
        have HX := Lib.hid hgx
        have hfz : decide (0 ≤ (m : Int) ∧ (m : Int) < (ps.length : Int)) = true := by simp; omega
        have HQ := Lib.hid hq
        have hq0 : ¬ q.1 < 0 := by omega
        clear hgx hc hI hR hv hq
        go_wp2_with fail
        refine HX.out.mono ?_
        rintro e w4 ⟨rfl, hb4⟩
        have hu4 : Upd (fun _ => False) wr (w4.alloc (.cells #[.int .i64 q.1, .bool q.2] 36)) := (Upd.of_below hb4).alloc _
        have hR4 := HRr.out.keep hu4 (fun h => h) (fun _ _ h => h)
        have hrt := right_any hR4 m
        rw [hfz] at hrt
        have HRT := Lib.hid hrt
        have HU4 := Lib.hid hu4
        have g4 := cell_of_block hR4.str 0
        have g5 := cell_of_block hR4.str 1
        simp at g4 g5
        have e0 := cell_of_block (heap_alloc_last w4 (.cells #[.int .i64 q.1, .bool q.2] 36) rfl) 0
        have e1 := cell_of_block (heap_alloc_last w4 (.cells #[.int .i64 q.1, .bool q.2] 36) rfl) 1
        obtain ⟨gs, os, cs, gd, od, cd, hv1, hv2, ⟨p0, _⟩, ⟨p1, _⟩, _, _⟩ := hR4.at hm
        cases hv1
        subst hv2
        rw [← HQ.out] at p0 p1
        have x0 : (0 : Int) ≤ (m : Int) := by omega
        have x1 : (m : Int) < (ps.length : Int) := by omega
        clear hb4 hu4 hR4 hrt HX hfz
        go_wp2_with fail
        refine HRT.out.mono ?_
        rintro e w5 ⟨rfl, rfl⟩
        go_wp2
        go_quiet (fail)
        go_wp2
        go_roundg (gk - 1)
        case measure => omega
        case rel =>
          have HU5 := HU4.out.drewN nq
          exact ⟨(m : Int) + 1, by omega, by omega, by omega, by go_num, HI.out.keep HU5 (fun h => h) (fun _ _ h => h), HRr.out.keep HU5 (fun h => h) (fun _ _ h => h), below_upd hB HU5 (Nat.le_refl _) (fun _ h => h.elim)⟩
    · obtain rfl : z = ps.length + 1 := by omega
      obtain ⟨wb, rfl⟩ : ∃ wb : World, wb = wr := ⟨_, rfl⟩
      clear hgz hz1 hz2
      go_wp2_with fail
      go_loopg [10] (min slots 20) (fun g i wr => ∃ k : Nat, k + g = min slots 20 ∧ i = .int .i64 k ∧ IndexAt wr b v mb N ps slots ∧ RefAt wr rb (.slice so ps.length sc) vd ps slots ∧ Below w0.heap.size w0 wr)
      case atStart => exact ⟨0, by omega, rfl, hI, hR, hB⟩
      case round =>
        clear hg0 hI hR hB
        obtain ⟨k, hk, rfl, hI, hR, hB⟩ := hrel
        have hg2 := cell_of_block hR.str 2
        simp at hg2
        by_cases hlt : k < min slots 20
        · have ho : ¬ ((k : Int) < 0 ∨ (slots : Int) ≤ k) := by omega
          have i1 : (k : Int) < (slots : Int) := by omega
          have i2 : (k : Int) < 20 := by omega
          have hat := at_any hI k
          have hra := rat_any hR k
          have HI := Lib.hid hI
          have HRr := Lib.hid hR
          cases ha : atOf ps (k : Int) with
          | none =>
            rw [show atC ps slots k = 14 by unfold atC; rw [if_neg ho, if_pos ha], show atV ps slots k = 0 by unfold atV; rw [if_neg ho, ha]; rfl] at hat
            rw [show atI ps k = -1 by unfold atI; rw [ha]] at hra
            have HA := Lib.hid hat
            have HB := Lib.hid hra
            clear hat hra hI hR ha ho
            go_wp2_with fail
            refine HA.out.mono ?_
            rintro e w4 ⟨rfl, rfl⟩
            go_wp2_with fail
            refine HB.out.mono ?_
            rintro e w5 ⟨rfl, rfl⟩
            go_wp2
            go_roundg (gk - 1)
            case measure => omega
            case rel => exact ⟨k + 1, by omega, by go_num, HI.out, HRr.out, hB⟩
          | some m =>
            rw [show atC ps slots k = 0 by unfold atC; rw [if_neg ho, if_neg (by rw [ha]; simp)], show atV ps slots k = m by unfold atV; rw [if_neg ho, ha]; rfl] at hat
            rw [show atI ps k = m by unfold atI; rw [ha]] at hra
            have HA := Lib.hid hat
            have HB := Lib.hid hra
            have m0 : ¬ (m : Int) < 0 := by omega
            have m1 : (0 : Int) ≤ (m : Int) := by omega
            clear hat hra hI hR ha ho
            go_wp2_with fail
            refine HA.out.mono ?_
            rintro e w4 ⟨rfl, rfl⟩
            go_wp2_with fail
            refine HB.out.mono ?_
            rintro e w5 ⟨rfl, rfl⟩
            go_wp2
            go_roundg (gk - 1)
            case measure => omega
            case rel => exact ⟨k + 1, by omega, by go_num, HI.out, HRr.out, hB⟩
        · by_cases hs : k < slots
          · obtain rfl : k = 20 := by omega
            have i1 : (20 : Int) < (slots : Int) := by omega
            clear hI hR
            go_wp2
            go_ret
            exact ⟨rfl, hB⟩
          · have i1 : ¬ (k : Int) < (slots : Int) := by omega
            clear hI hR
            go_wp2
            go_ret
            exact ⟨rfl, hB⟩
end Go.Proofs.Ytmgcekpfnkcmjaa
