/- The chapter's example. -/
import Derived.Test.YtmgcekpfnkcmjaaDoes07
import Derived.Test.YtmgcekpfnkcmjaaLaw
namespace Go.Proofs.Ytmgcekpfnkcmjaa
open Go Go.RowKit

theorem awake_out {key code : Int} {K' G' : List Int} {A A' : Int → Bool} (hA : A = updB (fun _ => false) 11 true) (h : EvOut 0 4 [11, 12] A [] key code K' A' G') : code = 0 ∧ key = 12 ∧ K' = [11] ∧ A' 11 = false := by
  subst hA
  rcases h with ⟨_, _, _, _, _, h⟩ | ⟨rfl, hy⟩
  · have := h 12 (by simp)
    simp [mayB, updB] at this
  · obtain ⟨i, hi, rfl, rfl, _, h2, h3⟩ := hy.ex
    have hi' : i = 0 ∨ i = 1 := by simp at hi; omega
    rcases hi' with rfl | rfl
    · rcases h2 with ⟨_, e⟩ | h | h
      · have := hy.out
        rw [e] at this
        simp [updB] at this
      · omega
      · have := h 12 (by simp)
        simp [mayB, updB] at this
    · exact ⟨rfl, rfl, rfl, h3 0 (by simp) (by omega) (by simp [mayB])⟩

set_option maxRecDepth 100000 in
set_option maxHeartbeats 1000000 in
theorem awake07 (w : World) : Calls Try.prog 29 #[] w fun e w' => e = .returned (.bool true) ∧ Below w.heap.size w w' := by
  have hS : ∀ (W : World), Below w.heap.size w W → ∀ j, W.heap.size ≤ j → w.heap.size ≤ j := fun W hW j hj => Nat.le_trans hW.size hj
  have HS := Lib.hid hS
  clear hS
  go_enter Try.func29, Try.ntmps29
  go_wp2_with fail
  refine (knew_ck (S := fun j => w.heap.size ≤ j) 4 4 _ (by decide) (by decide) (by decide) (fun j h => h)).mono ?_
  rintro e w1 ⟨b, rfl, hc1, hb, hB1⟩
  have B1 := Lib.hid hB1
  have H1 := Lib.hid hc1
  clear hc1 hB1 hb
  go_wp2_with fail
  refine (kadd_any H1.out (HS.out _ B1.out) 11 ⟨by decide, by decide⟩ (by unfold maxLen; omega)).mono ?_
  rintro e w2 ⟨rfl, hc2, hu2⟩
  have B2 := Lib.hid (below_upd B1.out hu2 (Nat.le_refl _) (fun _ h => h))
  have H2 : Hid (Ck (fun j => w.heap.size ≤ j) w2 b 1 4 4 [11] (fun _ => false) []) := hc2
  clear hc2 hu2
  go_wp2_with fail
  refine (kadd_any H2.out (HS.out _ B2.out) 12 ⟨by decide, by decide⟩ (by unfold maxLen; omega)).mono ?_
  rintro e w3 ⟨rfl, hc3, hu3⟩
  have B3 := Lib.hid (below_upd B2.out hu3 (Nat.le_refl _) (fun _ h => h))
  have H3 : Hid (Ck (fun j => w.heap.size ≤ j) w3 b 2 4 4 [11, 12] (fun _ => false) []) := hc3
  clear hc3 hu3
  go_wp2_with fail
  refine (ktouch_ck H3.out 11 (by unfold maxLen; omega)).mono ?_
  rintro e w4 ⟨rfl, hc4, hu4⟩
  have B4 := Lib.hid (below_upd B3.out hu4 (Nat.le_refl _) (fun _ h => h))
  have H4 : Hid (Ck (fun j => w.heap.size ≤ j) w4 b 3 4 4 [11, 12] (updB (fun _ => false) 11 true) []) := hc4
  clear hc4 hu4
  go_wp2_with fail
  refine (evict_ck H4.out (HS.out _ B4.out) 0 ⟨by decide, by decide⟩).mono ?_
  rintro e w5 ⟨key, code, K', A', G', rfl, ho, hc5, hu5⟩
  obtain ⟨rfl, rfl, rfl, ha⟩ := awake_out rfl ho
  have B5 := Lib.hid (below_upd B4.out hu5 (Nat.le_refl _) (fun _ h => h))
  have H5 := Lib.hid hc5
  have HA := Lib.hid ha
  clear hc5 hu5 ho ha
  go_wp2_with fail
  refine (keys_ck H5.out).mono ?_
  rintro e w6 ⟨v, u, rfl, hs6, ht6, hf6, hg6, hB6⟩
  have B6 := Lib.hid (B5.out.trans (hB6.mono B5.out.size))
  have e1 : kaL [11] A' = [(11, false)] := by simp [kaL, HA.out]
  rw [e1] at hs6 ht6
  obtain ⟨gv, ov, cv, curv, rfl, hgv, _, hcv⟩ := hs6.at (by simp)
  obtain ⟨gu, ou, cu, curu, rfl, hgu, _, hcu⟩ := ht6.at (by simp)
  have cu0 := (cell_of_block hgu ou).trans (by simpa [bools] using hcu 0 (.bool false) (by simp [bools]))
  have S6 := Lib.hid hs6
  have hu7 : Upd (fun _ => False) w6 (w6.alloc (.cells #[.int .i64 11] 3)) := (Upd.refl _ _).alloc _
  have cu1 := (hu7.cellAt (lt_of_block hgu) (fun h => h)).trans cu0
  have R1 := Lib.hid ((S6.out.keep hu7 (fun _ _ h => h)).rd)
  have R2 : Hid (Rd (w6.alloc (.cells #[.int .i64 11] 3)) 1 (.slice (some ⟨w6.heap.size, 0, none⟩) 1 1) [(11 : Int)].length (ints [11])) := Rd.fresh w6 [.int .i64 11] 3 1 (by simp) (by simp [maxLen])
  have HU7 := Lib.hid hu7
  clear hs6 ht6 hf6 hg6 hB6 hcv hcu hgv hgu hu7
  go_wp2_with fail
  refine (ints_any R1.out R2.out).mono ?_
  rintro e w8 ⟨rfl, d, rfl⟩
  go_wp2
  go_ret
  exact ⟨by simp, below_drewN (below_upd B6.out HU7.out (Nat.le_refl _) (fun _ h => h.elim)) _⟩
end Go.Proofs.Ytmgcekpfnkcmjaa
