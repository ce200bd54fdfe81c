/- Whatever is done: every slot is in one state; a step turns one slot at most, by a turn that may be. -/
import Derived.Test.YtolhlfahoooliaaDoorOps08
import Derived.Test.YtolhlfahoooliaaDoorCards
import Derived.Test.YtolhlfahoooliaaDoorTie
import Derived.Deep.RegionHeld3
import Derived.ProofKit
import Derived.OpenShut
import Derived.Deep.DeepHandedRow
import Derived.Lib.LaidTab
namespace Go.Proofs.YtolhlfahoooliaaDoor.slotsWhole
open Go Go.RowKit Go.ChangeShapes Go.WideShapes Go.ChangeAt Go.Proofs.YtolhlfahoooliaaDoor

/-- A step turns one slot at most. -/
def Step (xs ys : List Int) (i : Nat) : Prop := ∃ st, ys = xs.set i st ∧ i ≤ xs.length ∧ ∀ h : i < xs.length, mayB xs[i] st = true
def InS (xs : List Int) : Prop := ∀ x ∈ xs, 0 ≤ x ∧ x ≤ 4

theorem mayB_range {a b : Int} (h : mayB a b = true) : (0 ≤ a ∧ a ≤ 3) ∧ (0 ≤ b ∧ b ≤ 4) ∧ a ≠ b ∧ (b = 0 → a = 3) := by
  unfold mayB at h
  by_cases h0 : a = 0
  · rw [if_pos h0] at h; simp at h; omega
  · rw [if_neg h0] at h
    by_cases h1 : a = 1
    · rw [if_pos h1] at h; simp at h; omega
    · rw [if_neg h1] at h
      by_cases h2 : a = 2
      · rw [if_pos h2] at h; simp at h; omega
      · rw [if_neg h2] at h
        by_cases h3 : a = 3
        · rw [if_pos h3] at h; simp at h; omega
        · rw [if_neg h3] at h; cases h

theorem step_alloc (xs : List Int) : ∃ i, Step xs (allocList xs) i := by
  refine ⟨free xs, 1, rfl, free_le xs, fun h => ?_⟩
  have hz : (xs[free xs] == 0) = true := List.findIdx_getElem (p := (· == 0)) (xs := xs) (w := h)
  rw [eq_of_beq hz]; rfl
theorem step_turn (xs : List Int) (slot st : Int) : ∃ i, Step xs (turnList xs slot st) i := by
  by_cases h : turnCode xs slot st = 0
  · have hr : ¬ (slot < 0 ∨ (xs.length : Int) ≤ slot) := by
      intro hn; simp [turnCode, hn] at h
    refine ⟨slot.toNat, st, by simp [turnList, h], by omega, fun hi => ?_⟩
    unfold turnCode at h
    rw [if_neg hr] at h
    have hg : xs.getD slot.toNat 0 = xs[slot.toNat] := by simp [hi]
    rw [hg] at h
    by_cases hs : stateB st = false
    · rw [if_pos hs] at h; cases h
    · rw [if_neg hs] at h
      by_cases hm : mayB xs[slot.toNat] st = false
      · rw [if_pos hm] at h; cases h
      · simpa using hm
  · refine ⟨xs.length, 0, ?_, Nat.le_refl _, fun h => absurd h (Nat.lt_irrefl _)⟩
    rw [List.set_eq_of_length_le (Nat.le_refl _)]
    simp [turnList, h]
theorem Step.ins {xs ys : List Int} {i : Nat} (h : Step xs ys i) (hx : InS xs) : InS ys := by
  obtain ⟨st, rfl, hi, hm⟩ := h
  intro y hy
  by_cases hlt : i < xs.length
  · rcases List.mem_or_eq_of_mem_set hy with h | rfl
    · exact hx y h
    · have := mayB_range (hm hlt); omega
  · rw [List.set_eq_of_length_le (by omega)] at hy; exact hx y hy
theorem Step.at {xs ys : List Int} {i : Nat} (h : Step xs ys i) (k : Nat) (hk : k < xs.length) : ∃ h' : k < ys.length, (k = i → mayB xs[k] ys[k] = true) ∧ (k ≠ i → ys[k] = xs[k]) := by
  obtain ⟨st, rfl, hi, hm⟩ := h
  refine ⟨by simpa using hk, fun e => ?_, fun e => ?_⟩
  · subst e; rw [List.getElem_set_self]; exact hm hk
  · rw [List.getElem_set_ne (fun e' => e e'.symm)]

/-- How many slots there are in the first m states. -/
def sumC (ys : List Int) : Nat → Nat
  | 0 => 0
  | m + 1 => sumC ys m + (pos ys m).length
theorem posTo_step (ys : List Int) (s : Int) (k : Nat) (hk : k < ys.length) : (posTo ys s (k + 1)).length = (posTo ys s k).length + if ys[k] = s then 1 else 0 := by
  by_cases h : ys[k] = s
  · rw [posTo_hit (by simp [hk, h]), if_pos h]; simp
  · rw [posTo_miss (by simp [hk, h]), if_neg h]; rfl
theorem sumC_all {ys : List Int} (hy : InS ys) : sumC ys 5 = ys.length := by
  have : ∀ k, k ≤ ys.length → (posTo ys 0 k).length + (posTo ys 1 k).length + (posTo ys 2 k).length + (posTo ys 3 k).length + (posTo ys 4 k).length = k := by
    intro k
    induction k with
    | zero => intro _; rfl
    | succ k ih =>
      intro hk
      have hk' : k < ys.length := by omega
      have h1 := ih (by omega)
      have h2 := hy ys[k] (List.getElem_mem hk')
      rw [posTo_step ys 0 k hk', posTo_step ys 1 k hk', posTo_step ys 2 k hk', posTo_step ys 3 k hk', posTo_step ys 4 k hk']
      rcases (show ys[k] = 0 ∨ ys[k] = 1 ∨ ys[k] = 2 ∨ ys[k] = 3 ∨ ys[k] = 4 by omega) with h | h | h | h | h <;> simp [h] <;> omega
  have h := this ys.length (Nat.le_refl _)
  simp only [sumC, pos]
  simpa using h
theorem sumC_le (ys : List Int) (hl : ys.length ≤ 40) : ∀ m, sumC ys m ≤ 40 * m
  | 0 => Nat.le_refl _
  | m + 1 => by have := sumC_le ys hl m; have h2 : (pos ys m).length ≤ ys.length := posTo_len ys m ys.length; simp only [sumC]; omega

theorem early (n : Int) (v : Value) (l : List Op8) (w : World) (hv : Rd w 3 v l.length (ops8 l)) (ht : Tur w) (h : n < 1 ∨ 40 < n ∨ 100 < l.length) :
    Calls Tryd.prog 7 #[.int .i64 n, v] w fun e w' => e = .returned (.bool true) ∧ Below w.heap.size w w' := by
  have HT := Lib.hid ht; clear ht
  have hle := hv.le
  unfold maxLen at hle
  obtain ⟨ao, c, rfl⟩ := hv.nil_iff
  clear hv
  by_cases h1 : n < 1
  · clear h
    go_enter Tryd.func7, Tryd.ntmps7
    go_wp2_with fail
    refine (awake08 _ HT.out).mono ?_
    rintro e w3 ⟨rfl, hb⟩
    go_wp2
    go_ret
    exact ⟨rfl, hb⟩
  · by_cases h2 : 40 < n
    · clear h
      go_enter Tryd.func7, Tryd.ntmps7
      go_wp2_with fail
      refine (awake08 _ HT.out).mono ?_
      rintro e w3 ⟨rfl, hb⟩
      go_wp2
      go_ret
      exact ⟨rfl, hb⟩
    · have h3 : 100 < l.length := by omega
      clear h
      go_enter Tryd.func7, Tryd.ntmps7
      go_wp2_with fail
      refine (awake08 _ HT.out).mono ?_
      rintro e w3 ⟨rfl, hb⟩
      go_wp2
      go_ret
      exact ⟨rfl, hb⟩

set_option maxRecDepth 100000 in
set_option maxHeartbeats 4000000 in
theorem main (n : Nat) (v : Value) (l : List Op8) (w : World) (hv : Rd w 3 v l.length (ops8 l)) (ht : Tur w) (h1 : 1 ≤ n) (h2 : n ≤ 40) (h3 : l.length ≤ 100) :
    Calls Tryd.prog 7 #[.int .i64 n, v] w fun e w' => e = .returned (.bool true) ∧ Below w.heap.size w w' := by
  have hg : 0 < w.heap.size := ht.lt
  have side : ∀ k, ownS (.slice (some ⟨w.heap.size, 0, none⟩) n n) k → w.heap.size ≤ k := by intro k hk; simp [ownS, Value.ownBlock] at hk; omega
  have nt : Hid (¬ ownS (.slice (some ⟨w.heap.size, 0, none⟩) n n) 0) := fun h => by have := side _ h; omega
  have S := Lib.hid side
  have HT := Lib.hid ht
  have HV := Lib.hid hv
  obtain ⟨ao, c, rfl⟩ := hv.nil_iff
  clear side ht hv
  go_enter Tryd.func7, Tryd.ntmps7
  go_wp2_with fail
  refine (snew_ok n _ h1 (by omega)).mono ?_
  rintro e w1 ⟨rfl, hs1, hb1, hz1⟩
  have ht1 := HT.out.below hb1
  go_wp2_with fail
  go_loopg [7] l.length (fun g i wr => ∃ (k : Nat) (xs : List Int), k + g = l.length ∧ i = .int .i64 k ∧ xs.length = n ∧ InS xs ∧ SlotsAt TS wr (w.heap.size + 1) (.slice (some ⟨w.heap.size, 0, none⟩) n n) xs ∧ Below w.heap.size w wr ∧ Tur wr)
  case atStart => exact ⟨0, _, by omega, rfl, by simp, by intro x hx; obtain ⟨_, rfl⟩ := List.mem_replicate.1 hx; omega, hs1, hb1, ht1⟩
  case round =>
    clear hs1 hb1 hz1 ht1 w1
    obtain ⟨k, xs, hk, rfl, hxn, hin, hs, hb, ht⟩ := hrel
    have hwz : w.heap.size + 1 < wr.heap.size := lt_of_block hs.str
    by_cases hlt : k < l.length
    · obtain ⟨bl, off, c', hvv, hbl, hcells⟩ := HV.out.at (by omega)
      cases hvv
      have hHC := Lib.hid hcells
      clear hcells
      go_wp2_with fail
      refine (copy_any hs).mono ?_
      rintro e w2 ⟨b', v', rfl, hc2, hlb, hlv, hb2⟩
      have hbb2 := hb.trans (hb2.mono hb.size)
      have hs2 := hs.new (Upd.of_below hb2)
      have ht2 := ht.below hb2
      clear hs hb ht hb2
      obtain ⟨hc0, hc1, hc2'⟩ := ops8_at hlt
      replace hc0 := (hbb2.cell (p := ⟨bl, off + k * 3, none⟩) hbl).trans (hHC.out _ _ hc0)
      replace hc1 := (hbb2.cell (p := ⟨bl, off + (k * 3 + 1), none⟩) hbl).trans (hHC.out _ _ hc1)
      replace hc2' := (hbb2.cell (p := ⟨bl, off + (k * 3 + 2), none⟩) hbl).trans (hHC.out _ _ hc2')
      rw [show off + (k * 3 + 1) = off + k * 3 + 1 from rfl] at hc1
      rw [show off + (k * 3 + 2) = off + k * 3 + 2 from rfl] at hc2'
      obtain ⟨⟨al, sl, st⟩, hop⟩ : ∃ o, o = l[k] := ⟨_, rfl⟩
      rw [← hop] at hc0 hc1 hc2'
      simp only at hc0 hc1 hc2'
      clear hop
      obtain ⟨go, hgo⟩ : ∃ x, x = gk := ⟨_, rfl⟩
      have hk' : k + go = l.length := by omega
      have nS : Hid (∀ j, w.heap.size + 1 < j → ¬ ownS (.slice (some ⟨w.heap.size, 0, none⟩) n n) j) := fun j hj h => by simp [ownS, Value.ownBlock] at h; omega
      rcases Bool.eq_false_or_eq_true al with rfl | rfl
      case' _ =>
        go_wp2_with fail
        refine (alloc_any hs2).mono ?_
        rintro e w3 ⟨rfl, hs3, hu3⟩
        obtain ⟨si, hst⟩ := step_alloc xs
        have hyn : (allocList xs).length = n := by rw [allocList_len]; exact hxn
        have hb3 := below_upd hbb2 hu3 (Nat.le_refl _) S.out
        have ht3 := ht2.keep hu3 nt.out
        have hcc3 := hc2.keep hu3 (nS.out _ (by omega)) (fun g hg => nS.out _ (by have := hlv g hg; omega))
        clear hs2 hbb2 ht2 hu3 hc0 hc1 hc2' hc2
        go_wp2_with fail
        obtain ⟨ys, hye⟩ : ∃ ys, ys = allocList xs := ⟨_, rfl⟩
        rw [← hye] at hst hs3 hyn
        clear hye
        obtain ⟨wa, rfl⟩ : ∃ wa : World, wa = w3 := ⟨_, rfl⟩
      rotate_left
      case' _ =>
        have hsd := hs2.new ((Upd.refl _ w2).drew)
        have htd := ht2.keep ((Upd.refl (fun _ => False) w2).drew) (fun h => h)
        have hcd := hc2.new ((Upd.refl _ w2).drew)
        have hblS : Hid (¬ ownS (.slice (some ⟨w.heap.size, 0, none⟩) n n) bl) := fun h => by have := S.out _ h; omega
        have hblw : Hid (bl < w2.drew.heap.size) := Nat.lt_of_lt_of_le hbl hbb2.size
        go_wp2
        go_region_held3 (fun W => W.cell? ⟨bl, off + k * 3 + 1, none⟩ = some (.int .i64 sl) ∧ W.cell? ⟨bl, off + k * 3 + 2, none⟩ = some (.int .i64 st)) (go_keep)
          ((go_at_call 14; refine (turn_any hsd htd sl st).mono ?_; rintro e w3 ⟨rfl, hs3, hu3⟩; have k1 : w3.cell? ⟨bl, off + k * 3 + 1, none⟩ = some (.int .i64 sl) := (hu3.cellAt hblw.out hblS.out).trans hc1; have k2 : w3.cell? ⟨bl, off + k * 3 + 2, none⟩ = some (.int .i64 st) := (hu3.cellAt hblw.out hblS.out).trans hc2'))
        obtain ⟨si, hst⟩ := step_turn xs sl st
        have hyn : (turnList xs sl st).length = n := by rw [turnList_len]; exact hxn
        have hb3 := below_upd hbb2 (((Upd.refl _ w2).drew).trans hu3) (Nat.le_refl _) S.out
        have ht3 := htd.keep hu3 nt.out
        have hcc3 := hcd.keep hu3 (nS.out _ (by omega)) (fun g hg => nS.out _ (by have := hlv g hg; omega))
        clear hs2 hbb2 ht2 hu3 hc0 hc1 hc2' hc2 hsd htd hcd k1 k2
        go_wp2_with fail
        obtain ⟨ys, hye⟩ : ∃ ys, ys = turnList xs sl st := ⟨_, rfl⟩
        rw [← hye] at hst hs3 hyn
        clear hye
        obtain ⟨wa, rfl⟩ : ∃ wa : World, wa = w3 := ⟨_, rfl⟩
      all_goals
        have HST := Lib.hid hst
        have HIY := Lib.hid (hst.ins hin)
        clear hst
        go_loopg [9, 10] 5 (fun g s i wx => ∃ m : Nat, m + g = 5 ∧ i = .int .i64 m ∧ s = .int .i64 (sumC ys m) ∧ SlotsAt TS wx (w.heap.size + 1) (.slice (some ⟨w.heap.size, 0, none⟩) n n) ys ∧ Below w.heap.size w wx ∧ Tur wx ∧ SlotsAt TS wx b' v' xs)
        case atStart => exact ⟨0, by omega, rfl, rfl, hs3, hb3, ht3, hcc3⟩
        case round =>
          clear hs3 hb3 ht3 hcc3
          obtain ⟨m, hm, rfl, rfl, hs, hb, ht, hc⟩ := hrel
          have hsm := sumC_le ys (by omega) m
          by_cases hm5 : m < 5
          · have hpl : (pos ys m).length ≤ 40 := by have := posTo_len ys m ys.length; show (posTo ys m ys.length).length ≤ 40; omega
            go_wp2_with fail
            refine (count_any hs m (by omega)).mono ?_
            rintro e w4 ⟨rfl, hb4⟩
            have hbb4 := hb.trans (hb4.mono hb.size)
            have hs4 := hs.new (Upd.of_below hb4)
            have hc4 := hc.new (Upd.of_below hb4)
            have ht4 := ht.below hb4
            clear hs hb ht hc hb4
            go_wp2
            go_roundg (gk - 1)
            case measure => omega
            case rel => exact ⟨m + 1, by omega, by go_num, by simp only [sumC]; go_num, hs4, hbb4, ht4, hc4⟩
          · obtain rfl : m = 5 := by omega
            rw [sumC_all HIY.out, hyn]
            clear hsm
            obtain ⟨wb, rfl⟩ : ∃ wb : World, wb = wr := ⟨_, rfl⟩
            go_wp2_with fail
            go_loopg [11, 12] n (fun g t i wx => ∃ m T : Nat, m + g = n ∧ i = .int .i64 m ∧ t = .int .i64 T ∧ T = (if si < m then 1 else 0) ∧ wx = wb)
            case atStart => exact ⟨0, 0, by omega, rfl, rfl, rfl, rfl⟩
            case round =>
              obtain ⟨m, T, hm, rfl, rfl, hT, rfl⟩ := hrel
              have hT1 : T ≤ 1 := by rw [hT]; split <;> omega
              by_cases hmn : m < n
              · have hmx : m < xs.length := by omega
                obtain ⟨hmy, hmay, hsame⟩ := HST.out.at m hmx
                by_cases hms : m = si
                · have hma := hmay hms
                  obtain ⟨⟨r1, r2⟩, ⟨r3, r4⟩, r5, r6⟩ := mayB_range hma
                  have hT0 : T = 0 := by rw [hT, if_neg (by omega)]
                  subst hT0
                  have HMA := Lib.hid hma
                  have hb1 : (xs[m] == ys[m]) = false := by simp; exact r5
                  have hb2 : (xs[m] == 4) = false := by simp; omega
                  have HMS : Hid (1 = if si < m + 1 then 1 else 0) := by rw [if_pos (by omega)]; exact rfl
                  clear hma hmay hsame hT hms r1 r2 r3 r4
                  by_cases hy0 : ys[m] = 0
                  · have hx3 := r6 hy0
                    have HX := Lib.hid hx3; have HY := Lib.hid hy0
                    rw [hx3, hy0] at HMA
                    clear r6 r5 hb1 hb2 hx3 hy0
                    go_wp2_with fail
                    refine (state_in hc m hmx).mono ?_
                    rintro e w5 ⟨rfl, rfl⟩
                    go_wp2_with fail
                    refine (state_in hs m hmy).mono ?_
                    rintro e w5 ⟨rfl, rfl⟩
                    rw [HX.out, HY.out]
                    go_wp2_with fail
                    refine (may_any _ _ _ ht).mono ?_
                    rintro e w5 ⟨rfl, rfl⟩
                    rw [HMA.out]
                    go_wp2
                    go_roundg (gk - 1)
                    case measure => omega
                    case rel => exact ⟨m + 1, 1, by omega, by go_num, rfl, HMS.out, rfl⟩
                  · have hb3 : (ys[m] == 0) = false := by simpa using hy0
                    have hb4 : ¬ xs[m] = 4 := by simpa using hb2
                    clear r6
                    go_wp2_with fail
                    refine (state_in hc m hmx).mono ?_
                    rintro e w5 ⟨rfl, rfl⟩
                    go_wp2_with fail
                    refine (state_in hs m hmy).mono ?_
                    rintro e w5 ⟨rfl, rfl⟩
                    go_wp2_with fail
                    refine (may_any _ _ _ ht).mono ?_
                    rintro e w5 ⟨rfl, rfl⟩
                    rw [HMA.out]
                    go_wp2
                    go_roundg (gk - 1)
                    case measure => omega
                    case rel => exact ⟨m + 1, 1, by omega, by go_num, rfl, HMS.out, rfl⟩
                · have hsm := hsame hms
                  have HSM := Lib.hid hsm
                  have HMS : Hid (T = if si < m + 1 then 1 else 0) := by
                    rw [hT]
                    by_cases hq : si < m
                    · rw [if_pos hq, if_pos (by omega)]; exact rfl
                    · rw [if_neg hq, if_neg (by omega)]; exact rfl
                  clear hmay hsame hms hsm hT
                  go_wp2_with fail
                  refine (state_in hc m hmx).mono ?_
                  rintro e w5 ⟨rfl, rfl⟩
                  go_wp2_with fail
                  refine (state_in hs m hmy).mono ?_
                  rintro e w5 ⟨rfl, rfl⟩
                  rw [HSM.out]
                  go_wp2
                  all_goals
                    go_roundg (gk - 1)
                    case measure => omega
                    case rel => exact ⟨m + 1, T, by omega, by go_num, rfl, HMS.out, rfl⟩
              · obtain rfl : m = n := by omega
                have hTb : (T : Int) ≤ 1 := by omega
                clear hT
                have HS := Lib.hid hs
                have HB := Lib.hid hb
                clear hs hb
                go_wp2
                go_roundg (go - 1)
                case measure => omega
                case rel => exact ⟨k + 1, ys, by omega, by go_num, hyn, HIY.out, HS.out, HB.out, ht⟩
    · have HB := Lib.hid hb
      clear hs hb
      go_wp2_with fail
      refine (awake08 _ ht).mono ?_
      rintro e w5 ⟨rfl, hb5⟩
      go_wp2
      go_ret
      exact ⟨rfl, HB.out.trans (hb5.mono HB.out.size)⟩

theorem walk (n : Int) (v : Value) (l : List Op8) (w : World) (hv : Rd w 3 v l.length (ops8 l)) (ht : Tur w) :
    Calls Tryd.prog 7 #[.int .i64 n, v] w fun e w' => e = .returned (.bool true) ∧ Below w.heap.size w w' := by
  by_cases h : n < 1 ∨ 40 < n ∨ 100 < l.length
  · exact early n v l w hv ht h
  · obtain ⟨m, rfl⟩ := Int.eq_ofNat_of_zero_le (show 0 ≤ n by omega)
    exact main m v l w hv ht (by omega) (by omega) (by omega)

theorem own : ownKnob Tryd.prog.godebug = none := by kernel_rfl

theorem table {W : World} (h : laidMetH Tryd.prog Rows.slotsWholeRow.laid W) : Tur W := by
  have ht : Lib.TabIs Tryd.prog W "lavabo/slots.turns" .i64 [2, 28, 24, 17, 0] := Lib.tabIs_of_head (rest := []) gTab gTabType tabArr Tryd.underlying3 (by kernel_rfl) (by kernel_rfl) h
  exact ⟨ht.cell gTab 0 (by decide), ht.cell gTab 1 (by decide), ht.cell gTab 2 (by decide), ht.cell gTab 3 (by decide), ht.cell gTab 4 (by decide)⟩

theorem contract (H : Type) (enc : TypeId × Value → H) (W : World) (base : Nat) (args : Array Value) (ds gs : List (DataW H)) (before : List MemPlace)
    (hval : ∀ (j : Nat) t v, Tryd.f7.params[j]? = some t → args[j]? = some v → Value.okWide Tryd.prog W .any base t v)
    (hW : DataW.Whole enc Tryd.prog Tryd.f7.params.toList Rows.slotsWholeSpec.vars false W args.toList ds gs before) (hL : laidMetH Tryd.prog Rows.slotsWholeRow.laid W) :
    Calls Tryd.prog 7 args W fun e W' => ∃ v, e = .returned v ∧ Rows.slotsWholeSpec.post enc Tryd.prog Tryd.f7 false true false false W args v W' := by
  have hW' := hW
  obtain ⟨p, q, hA0, hV, rfl, hfz, hnd⟩ := hW
  have hA : DataW.TrodAll enc Tryd.prog W 0 (fun _ => true) true Tryd.f7.params.toList args.toList ds p := hA0
  rw [Tryd.params7] at hA hval
  obtain ⟨v0, vs0, d0, ds0, p0, q0, hargs, rfl, rfl, h0, r0⟩ := trodAll_cons hA
  obtain ⟨v1, vs1, d1, ds1, p1, q1, rfl, rfl, rfl, h1, r1⟩ := trodAll_cons r0
  obtain ⟨rfl, rfl, rfl⟩ := trodAll_nil r1
  obtain rfl : args = #[v0, v1] := by cases args; simp_all
  obtain ⟨rfl, rfl⟩ := trodVars_none hV
  obtain ⟨a0, rfl, rfl, rfl, w0⟩ := open_int Tryd.underlying3 (hval 0 3 v0 rfl rfl) h0
  obtain ⟨l, hl, _⟩ := open_rd op8C (fun _ => True) (k := 3) (fun _ => rfl) (by decide) Tryd.underlying24 cells30 op8El (hval 1 24 v1 rfl rfl) h1
  refine (walk a0 v1 l W hl (table hL)).mono fun e W' ⟨he, hb⟩ => ?_
  subst he
  exact ⟨_, rfl, law_post (T := 4) (by kernel_rfl) (by kernel_rfl) rfl Tryd.underlying4 rfl rfl hW' hb⟩

noncomputable def laidWorld (os : Os) : World :=
  { World.holding Tryd.prog os ⟨#[], #[], []⟩ with heap := (World.holding Tryd.prog os ⟨#[], #[], []⟩).heap.modify 0 fun
      | .cells _ t frozen => .cells #[.int .i64 2, .int .i64 28, .int .i64 24, .int .i64 17, .int .i64 0] t frozen
      | o => o }
theorem laid_met (os : Os) : laidMet Tryd.prog Rows.slotsWholeRow.laid ((laidWorld os).forCall (fun _ _ => 0) ⟨#[], #[.int .i64 0, .slice none 0 0], []⟩).memory :=
  laidMet_of_run' 8 (by kernel_rfl) (by kernel_rfl)
theorem reads (os : Os) {H : Type} (enc : TypeId × Value → H) : ∃ places, DataW.whole enc Tryd.prog ((laidWorld os).forCall (fun _ _ => 0) ⟨#[], #[.int .i64 0, .slice none 0 0], []⟩).memory Tryd.f7.params.toList Rows.slotsWholeSpec.vars false (#[.int .i64 0, .slice none 0 0] : Array Value).toList 8 = some ([.lit (.int .i64 0), .nil], [], places) :=
  ⟨[], by kernel_rfl⟩

set_option maxRecDepth 100000 in
theorem lifted (os : Os) (started : os.Started) (H : Type) (enc : TypeId × Value → H) (F : Stop.Interp) :
    ReturnsInHanded {} Tryd.checked os 7 .any ((OpenSpec.ofChange Rows.slotsWholeSpec).preRow enc Tryd.prog Tryd.f7 Rows.slotsWholeRow.domain false Rows.slotsWholeRow.laid) (((OpenSpec.ofChange Rows.slotsWholeSpec).at F).post enc Tryd.prog Tryd.f7 false true false false) := by
  obtain ⟨places, hx⟩ := reads os enc
  refine returnsInHanded_of_row (C := Tryd.checked) (s := OpenSpec.ofChange Rows.slotsWholeSpec) own started (by kernel_rfl) Tryd.func7
    (witness_row_at (enc := enc) (C := Tryd.checked) false (laidWorld os) #[.int .i64 0, .slice none 0 0] rfl (by kernel_rfl) (by kernel_rfl) (by kernel_rfl)
      (OpenSpec.preRow_of_cond 8 hx (by kernel_rfl) (fun k hk => by cases hk) (by kernel_rfl) (laid_met os))) ?_
  intro W base args ds gs before hval hW _ _ _ hL _ _
  exact contract H enc W base args ds gs before hval hW hL

theorem said : Rows.SlotsWholeSaid :=
  OpenClaim.holds_of_cond 7 Tryd.f7 rfl rfl rfl rfl rfl rfl rfl ⟨rfl, rfl, rfl, rfl, rfl⟩ rfl rfl rfl rfl rfl (by kernel_rfl) Tryd.func7 (by kernel_rfl)
    (of_decide_eq_true (by kernel_rfl)) (by unfold Func.isWrapper; first | (rw [if_pos (by decide +kernel)]; kernel_rfl) | (rw [if_neg (by decide +kernel)]; exact ⟨rfl, rfl⟩))
    (fun os started H enc _ F => by rw [OpenClaim.pre_eq_preRow]; exact lifted os started H enc F)

theorem plain (f : FuncId) (fn : Func) (hf : Tryd.pinned.checked.prog.funcNamed "lavabo/lavabolaw08.SlotsWhole" = some f) (hfn : Tryd.pinned.checked.prog.funcs[f]? = some fn) :
    false = Tryd.pinned.checked.prog.looks [] ∧ ∀ (j : Nat) t, fn.params[j]? = some t → Tryd.pinned.checked.prog.wantsStandIn t = false := by
  obtain rfl : f = 7 := Option.some.inj ((show Tryd.prog.funcNamed "lavabo/lavabolaw08.SlotsWhole" = some 7 by kernel_rfl).symm.trans hf) |>.symm
  obtain rfl : fn = Tryd.f7 := (Option.some.inj (Tryd.func7.symm.trans hfn)).symm
  refine ⟨by kernel_rfl, fun j t ht => ?_⟩
  have hall : Tryd.f7.params.toList.all (fun t => Tryd.prog.wantsStandIn t == false) = true := by kernel_rfl
  have hm : t ∈ Tryd.f7.params.toList := by simpa using Array.mem_of_getElem? ht
  exact eq_of_beq (List.all_eq_true.1 hall t hm)

/-- THE CARD. -/
theorem card : Rows.SlotsWholeCardSaid :=
  Claim7.holds_tied_plain_at .later [] _ _ _ _ said (fun _ h => by cases h) (by kernel_rfl) (fun _ h => by cases h) slotsWhole_row_tie rfl ⟨rfl, rfl⟩ (by kernel_rfl) rfl plain (by kernel_rfl)
end Go.Proofs.YtolhlfahoooliaaDoor.slotsWhole
