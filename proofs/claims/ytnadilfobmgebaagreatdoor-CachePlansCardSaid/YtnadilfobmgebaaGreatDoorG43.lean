/- A cache: Write, Discard. A cache: Discard, Count, Devices, Place, Super, Places. A block of noughts that is built: its cells by a name. -/
import Derived.Test.YtnadilfobmgebaaGreatDoorG42
import Derived.Test.YtnadilfobmgebaaGreatDoorG17
import Derived.Test.YtnadilfobmgebaaGreatDoorG25
namespace Go.Proofs.YtnadilfobmgebaaGreatDoor
open Go Go.RowKit
def CaS.wrote (n : CaN) (a : CaS) (k : Int) (x : Bk) (md : Int) : CaS × Int :=
  if k < 0 ∨ (n.bl : Int) ≤ k then (a, 10) else if md < 0 ∨ 3 ≤ md then (a, 1) else if md = 0 then a.backed n k.toNat x else if md = 1 then a.thru n k.toNat x else a.bypassed n k.toNat x
section
variable {own : Nat → Nat} {w w' : World} {c : Nat} {n : CaN} {p : CaP} {a : CaS} {N : Nat}
theorem ca_there (h : CaAt own w c n p a) (k : Int) : Calls Tryz.prog 137 #[ptr c, .int .i64 k] w fun e w' => e = .returned (.bool (decide (0 ≤ k) && decide (k < (n.bl : Int)))) ∧ w' = w := by
  have s1 := h.sup.2.1
  clear h
  by_cases h0 : 0 ≤ k
  · have q0 : decide (0 ≤ k) = true := by simpa using h0
    go_enter Tryz.func137, Tryz.ntmps137
    go_wp2
    go_ret
    exact ⟨by simp [h0], rfl⟩
  · have q0 : decide (0 ≤ k) = false := by simpa using h0
    go_enter Tryz.func137, Tryz.ntmps137
    go_wp2
    go_ret
    exact ⟨by simp, rfl⟩
abbrev fnV (f : Nat) : Value := .func (.func f) #[] #[]
theorem ca_modes (w : World) : Calls Tryz.prog 138 #[] w fun e w' => e = .returned (.agg #[fnV 176, fnV 177, fnV 140]) ∧ Below w.heap.size w w' := by
  go_enter Tryz.func138, Tryz.ntmps138
  go_wp2
  have hr := range_of_block (heap_alloc_last w (.cells [fnV 176, fnV 177, fnV 140].toArray 217) rfl)
  exact bodyPost_ret (results_mid1 rfl _ _ w.heap.size 0 _ _ rfl hr Tryz.underlying217 rfl (by kernel_rfl)) rfl ⟨rfl, (Below.refl _ _).alloc (Nat.le_refl _) _⟩
set_option maxRecDepth 100000 in
set_option maxHeartbeats 1000000 in
theorem ca_write (h : CaAt own w c n p a) (hf : a.Fit N) (hN : N + 3 * n.pa + n.jo + 6 ≤ 50000) (ht : a.Tie n none) (k : Int) (x : Bk) (hx : x.length = 64) (md : Int) :
    Calls Tryz.prog 84 #[ptr c, .int .i64 k, .agg (bkC x).toArray, .int .i64 md] w (CaOut own w c n p (a.wrote n k x md).1 (.int .i64 (a.wrote n k x md).2)) := by
  obtain ⟨w1, hw1⟩ : ∃ w1, w1 = w.alloc (.cells (bkC x).toArray 23) := ⟨_, rfl⟩
  have hu1 : Upd (fun _ => False) w w1 := by rw [hw1]; exact (Upd.refl _ w).alloc _
  have hg1 : w1.heap[w.heap.size]? = some (.cells (bkC x).toArray 23 (0, 0)) := by rw [hw1]; exact heap_alloc_last w _ rfl
  obtain ⟨m, hm⟩ : ∃ m, m = w.heap.size := ⟨_, rfl⟩
  have hm0 : own m = 0 := h.far _ (by omega)
  rw [← hm] at hg1
  have h1 := h.new hu1
  have d1 := h.didNew hu1
  have HT := Lib.hid (ca_there h1 k)
  obtain ⟨R, hR⟩ : ∃ R, R = a.wrote n k x md := ⟨_, rfl⟩
  rw [← hR]
  unfold CaS.wrote at hR
  have HM := Lib.hid hm
  have HM0 := Lib.hid hm0
  have HW1 := Lib.hid hw1
  have hut := Tryz.underlying23
  have hsi := sizeBk x hx
  have H := Lib.hid (And.intro h1 (And.intro d1 (And.intro hg1 (And.intro hR (And.intro hf (And.intro hN (And.intro ht hx)))))))
  clear h hf hN ht hx hu1 hg1 hm0 h1 d1 hR hm hw1
  obtain ⟨tb, htb⟩ : ∃ tb, tb = (decide (0 ≤ k) && decide (k < (n.bl : Int))) := ⟨_, rfl⟩
  rw [← htb] at HT
  cases tb with
  | false =>
    replace htb := Lib.hid htb
    go_enter Tryz.func84, Tryz.ntmps84
    go_wp2_with fail
    rw [← HW1.out]
    refine HT.out.mono ?_
    rintro e w2 ⟨rfl, hw2⟩
    subst hw2
    have hR := H.out.2.2.2.1
    rw [if_pos (by have := htb.out; simp at this; omega)] at hR
    have HY := Lib.hid hR
    clear hR HT htb
    go_wp2
    go_ret
    rw [HY.out]
    exact ⟨rfl, own, H.out.1, H.out.2.1⟩
  | true =>
    have hkr : 0 ≤ k ∧ k < (n.bl : Int) := by simpa using htb.symm
    have hR := H.out.2.2.2.1
    rw [if_neg (by omega)] at hR
    have HK := Lib.hid hkr
    clear htb hkr
    replace hR := Lib.hid hR
    go_enter Tryz.func84, Tryz.ntmps84
    go_wp2_with fail
    rw [← HW1.out]
    refine HT.out.mono ?_
    rintro e w2 ⟨rfl, hw2⟩
    subst hw2
    clear HT
    go_wp2_with fail
    refine (ca_modes w2).mono ?_
    rintro e w3 ⟨rfl, hb3⟩
    obtain ⟨h1, d1, hg1, -, hf, hN, ht, hx⟩ := H.out
    have hu3 : Upd (fun _ => False) w2 w3 := Upd.of_below hb3
    obtain ⟨w4, hw4⟩ : ∃ w4, w4 = w3.alloc (.cells #[fnV 176, fnV 177, fnV 140] 217) := ⟨_, rfl⟩
    have hu4 : Upd (fun _ => False) w3 w4 := by rw [hw4]; exact (Upd.refl _ w3).alloc _
    have g4 : w4.heap[w3.heap.size]? = some (.cells #[fnV 176, fnV 177, fnV 140] 217 (0, 0)) := by rw [hw4]; exact heap_alloc_last w3 _ rfl
    have hu := hu3.trans hu4
    have h4 := h1.new hu
    have d4 := d1.trans (h1.didNew hu)
    have r4 := hu.range (range_of_block hg1) (fun h => h)
    have hud := (Upd.refl (fun _ => False) w4).drew
    obtain ⟨tb, htb⟩ : ∃ tb, tb = w3.heap.size := ⟨_, rfl⟩
    rw [← htb] at g4
    have f0 := cell_of_block g4 0
    have f1 := cell_of_block g4 1
    have f2 := cell_of_block g4 2
    simp at f0 f1 f2
    have H4 := Lib.hid (And.intro (h4.new hud) (d4.trans (h4.didNew hud)))
    have H4u := Lib.hid (And.intro h4 d4)
    have HO := Lib.hid (And.intro (h1.far tb (by have := hu3.size; omega)) HM0.out)
    have HF := Lib.hid (And.intro hf (And.intro hN (And.intro ht (And.intro hx (And.intro hw4 htb)))))
    clear h1 d1 hg1 hf hN ht hx hb3 hu3 hu4 g4 hu h4 d4 hud H hw4 htb
    by_cases q0 : md < 0
    · have hR' := hR.out
      rw [if_pos (by omega)] at hR'
      replace hR' := Lib.hid hR'
      go_wp2
      go_ret
      rw [← HF.out.2.2.2.2.1, hR'.out]
      exact ⟨rfl, own, H4u.out.1, H4u.out.2⟩
    by_cases q1 : 3 ≤ md
    · have hR' := hR.out
      rw [if_pos (by omega)] at hR'
      replace hR' := Lib.hid hR'
      have q2 : decide (md < 0) = false := by simpa using q0
      go_wp2
      go_ret
      rw [← HF.out.2.2.2.2.1, hR'.out]
      exact ⟨rfl, own, H4u.out.1, H4u.out.2⟩
    have hR' := hR.out
    rw [if_neg (by omega)] at hR'
    have hkn : ((k.toNat : Nat) : Int) = k := Int.toNat_of_nonneg HK.out.1
    have hkb : k.toNat < n.bl := by have := HK.out.2; omega
    rcases (show md = 0 ∨ md = 1 ∨ md = 2 by omega) with rfl | rfl | rfl
    · rw [if_pos rfl] at hR'
      have HB := Lib.hid (ca_back H4.out.1 HF.out.1 (by have := HF.out.2.1; omega) HF.out.2.2.1 k.toNat hkb x HF.out.2.2.2.1)
      rw [hkn, ← hR'] at HB
      replace hkn := Lib.hid hkn
      clear hR' hR
      go_upto_region 8 with fail
      rw [← HF.out.2.2.2.2.1, ← HF.out.2.2.2.2.2, ← HM.out]
      refine wp_region_held_drew (S := fun W => W.cell? ⟨tb, 0, none⟩ = some (fnV 176) ∧ W.rangeAt m 0 (bkC x)) (by kernel_rfl) (by (simp only [World.cell?_drew, World.rangeAt_drew]); exact ⟨f0, r4⟩) (fun hHeld => ?_)
      refine tk (i := 0) (v := ?_) rfl ?_ hHeld ?_
      rotate_left
      · intro W hSw; (try dsimp only at hSw); (try go_split_ands); go_simp; (try with_reducible rfl)
      simp only [List.getElem_toArray, List.getElem_cons_zero, Act.put, List.setIfInBounds_toArray, List.set_cons_zero, List.set_cons_succ]
      refine tk (i := 1) (v := ?_) rfl ?_ hHeld ?_
      rotate_left
      · intro W hSw; (try dsimp only at hSw); (try go_split_ands); go_simp; (try with_reducible rfl)
      simp only [List.getElem_toArray, List.getElem_cons_succ, List.getElem_cons_zero, Act.put, List.setIfInBounds_toArray, List.set_cons_zero, List.set_cons_succ]
      refine tk (i := 2) (v := ?_) rfl ?_ hHeld ?_
      rotate_left
      · intro W hSw; (try dsimp only at hSw); (try go_split_ands); go_simp; (try with_reducible rfl)
      simp only [List.getElem_toArray, List.getElem_cons_succ, List.getElem_cons_zero, Act.put, List.setIfInBounds_toArray, List.set_cons_zero, List.set_cons_succ]
      refine tk (i := 3) (v := ?_) rfl ?_ hHeld ?_
      rotate_left
      · intro W hSw; (try dsimp only at hSw); (try go_split_ands); go_simp; (try with_reducible rfl)
      simp only [List.getElem_toArray, List.getElem_cons_succ, List.getElem_cons_zero, Act.put, List.setIfInBounds_toArray, List.set_cons_zero, List.set_cons_succ]
      refine tk (i := 4) (v := ?_) rfl ?_ hHeld ?_
      rotate_left
      · intro W hSw; (try dsimp only at hSw); (try go_split_ands); go_simp; (try with_reducible rfl)
      simp only [List.getElem_toArray, List.getElem_cons_succ, List.getElem_cons_zero, Act.put, List.setIfInBounds_toArray, List.set_cons_zero, List.set_cons_succ]
      refine' wpAnyH_take (i := 5) rfl (by kernel_rfl) (by kernel_rfl) (by kernel_rfl) (fun _ _ _ h => h) (yieldsIf_load_mid (by rfl) _ _ rfl _ _ rfl _ _ (fun w h => h.2) hut rfl hsi) hHeld _
      simp only [List.getElem_toArray, List.getElem_cons_succ, List.getElem_cons_zero, Act.put, List.setIfInBounds_toArray, List.set_cons_zero, List.set_cons_succ]
      refine wpAnyH_ready (rs := [6]) (by kernel_rfl) (by simp) ?_
      refine AllReadyH.cons rfl (fun K hK => ?_) AllReadyH.nil
      go_simp
      refine HB.out.mono ?_
      rintro e w5 ⟨rfl, own5, h5, d5⟩
      have e5 : w5.cell? ⟨tb, 0, none⟩ = some (fnV 176) ∧ w5.rangeAt m 0 (bkC x) := ⟨d5.upd.cellv hHeld.1 (fun h => h.1 HO.out.1), d5.upd.range hHeld.2 (fun h => h.1 HO.out.2)⟩
      have H5 := Lib.hid (And.intro h5 (H4.out.2.trans d5))
      clear h5 d5
      refine hK.out _ _ (e5) (fun hH1 => ?_)
      clear hK K
      refine wpAnyH_ready (rs := [7]) (by kernel_rfl) (by simp) ?_
      refine AllReadyH.cons rfl (fun K hK => ?_) AllReadyH.nil
      go_simp
      refine hK.out _ _ (hH1) (fun hH2 => ?_)
      clear hK K
      refine wpAnyH_done (by kernel_rfl) ?_ _
      go_wp2
      go_ret
      exact ⟨rfl, own5, H5.out.1, H5.out.2⟩
    · rw [if_neg (by decide), if_pos rfl] at hR'
      have HB := Lib.hid (ca_thru H4.out.1 HF.out.1 (by have := HF.out.2.1; omega) HF.out.2.2.1 k.toNat hkb x HF.out.2.2.2.1)
      rw [hkn, ← hR'] at HB
      replace hkn := Lib.hid hkn
      clear hR' hR
      go_upto_region 8 with fail
      rw [← HF.out.2.2.2.2.1, ← HF.out.2.2.2.2.2, ← HM.out]
      refine wp_region_held_drew (S := fun W => W.cell? ⟨tb, 1, none⟩ = some (fnV 177) ∧ W.rangeAt m 0 (bkC x)) (by kernel_rfl) (by (simp only [World.cell?_drew, World.rangeAt_drew]); exact ⟨f1, r4⟩) (fun hHeld => ?_)
      refine tk (i := 0) (v := ?_) rfl ?_ hHeld ?_
      rotate_left
      · intro W hSw; (try dsimp only at hSw); (try go_split_ands); go_simp; (try with_reducible rfl)
      simp only [List.getElem_toArray, List.getElem_cons_zero, Act.put, List.setIfInBounds_toArray, List.set_cons_zero, List.set_cons_succ]
      refine tk (i := 1) (v := ?_) rfl ?_ hHeld ?_
      rotate_left
      · intro W hSw; (try dsimp only at hSw); (try go_split_ands); go_simp; (try with_reducible rfl)
      simp only [List.getElem_toArray, List.getElem_cons_succ, List.getElem_cons_zero, Act.put, List.setIfInBounds_toArray, List.set_cons_zero, List.set_cons_succ]
      refine tk (i := 2) (v := ?_) rfl ?_ hHeld ?_
      rotate_left
      · intro W hSw; (try dsimp only at hSw); (try go_split_ands); go_simp; (try with_reducible rfl)
      simp only [List.getElem_toArray, List.getElem_cons_succ, List.getElem_cons_zero, Act.put, List.setIfInBounds_toArray, List.set_cons_zero, List.set_cons_succ]
      refine tk (i := 3) (v := ?_) rfl ?_ hHeld ?_
      rotate_left
      · intro W hSw; (try dsimp only at hSw); (try go_split_ands); go_simp; (try with_reducible rfl)
      simp only [List.getElem_toArray, List.getElem_cons_succ, List.getElem_cons_zero, Act.put, List.setIfInBounds_toArray, List.set_cons_zero, List.set_cons_succ]
      refine tk (i := 4) (v := ?_) rfl ?_ hHeld ?_
      rotate_left
      · intro W hSw; (try dsimp only at hSw); (try go_split_ands); go_simp; (try with_reducible rfl)
      simp only [List.getElem_toArray, List.getElem_cons_succ, List.getElem_cons_zero, Act.put, List.setIfInBounds_toArray, List.set_cons_zero, List.set_cons_succ]
      refine' wpAnyH_take (i := 5) rfl (by kernel_rfl) (by kernel_rfl) (by kernel_rfl) (fun _ _ _ h => h) (yieldsIf_load_mid (by rfl) _ _ rfl _ _ rfl _ _ (fun w h => h.2) hut rfl hsi) hHeld _
      simp only [List.getElem_toArray, List.getElem_cons_succ, List.getElem_cons_zero, Act.put, List.setIfInBounds_toArray, List.set_cons_zero, List.set_cons_succ]
      refine wpAnyH_ready (rs := [6]) (by kernel_rfl) (by simp) ?_
      refine AllReadyH.cons rfl (fun K hK => ?_) AllReadyH.nil
      go_simp
      refine HB.out.mono ?_
      rintro e w5 ⟨rfl, own5, h5, d5⟩
      have e5 : w5.cell? ⟨tb, 1, none⟩ = some (fnV 177) ∧ w5.rangeAt m 0 (bkC x) := ⟨d5.upd.cellv hHeld.1 (fun h => h.1 HO.out.1), d5.upd.range hHeld.2 (fun h => h.1 HO.out.2)⟩
      have H5 := Lib.hid (And.intro h5 (H4.out.2.trans d5))
      clear h5 d5
      refine hK.out _ _ (e5) (fun hH1 => ?_)
      clear hK K
      refine wpAnyH_ready (rs := [7]) (by kernel_rfl) (by simp) ?_
      refine AllReadyH.cons rfl (fun K hK => ?_) AllReadyH.nil
      go_simp
      refine hK.out _ _ (hH1) (fun hH2 => ?_)
      clear hK K
      refine wpAnyH_done (by kernel_rfl) ?_ _
      go_wp2
      go_ret
      exact ⟨rfl, own5, H5.out.1, H5.out.2⟩
    · rw [if_neg (by decide), if_neg (by decide)] at hR'
      have HB := Lib.hid (ca_bypass H4.out.1 HF.out.1 (by have := HF.out.2.1; omega) HF.out.2.2.1 k.toNat hkb x HF.out.2.2.2.1)
      rw [hkn, ← hR'] at HB
      replace hkn := Lib.hid hkn
      clear hR' hR
      go_upto_region 8 with fail
      rw [← HF.out.2.2.2.2.1, ← HF.out.2.2.2.2.2, ← HM.out]
      refine wp_region_held_drew (S := fun W => W.cell? ⟨tb, 2, none⟩ = some (fnV 140) ∧ W.rangeAt m 0 (bkC x)) (by kernel_rfl) (by (simp only [World.cell?_drew, World.rangeAt_drew]); exact ⟨f2, r4⟩) (fun hHeld => ?_)
      refine tk (i := 0) (v := ?_) rfl ?_ hHeld ?_
      rotate_left
      · intro W hSw; (try dsimp only at hSw); (try go_split_ands); go_simp; (try with_reducible rfl)
      simp only [List.getElem_toArray, List.getElem_cons_zero, Act.put, List.setIfInBounds_toArray, List.set_cons_zero, List.set_cons_succ]
      refine tk (i := 1) (v := ?_) rfl ?_ hHeld ?_
      rotate_left
      · intro W hSw; (try dsimp only at hSw); (try go_split_ands); go_simp; (try with_reducible rfl)
      simp only [List.getElem_toArray, List.getElem_cons_succ, List.getElem_cons_zero, Act.put, List.setIfInBounds_toArray, List.set_cons_zero, List.set_cons_succ]
      refine tk (i := 2) (v := ?_) rfl ?_ hHeld ?_
      rotate_left
      · intro W hSw; (try dsimp only at hSw); (try go_split_ands); go_simp; (try with_reducible rfl)
      simp only [List.getElem_toArray, List.getElem_cons_succ, List.getElem_cons_zero, Act.put, List.setIfInBounds_toArray, List.set_cons_zero, List.set_cons_succ]
      refine tk (i := 3) (v := ?_) rfl ?_ hHeld ?_
      rotate_left
      · intro W hSw; (try dsimp only at hSw); (try go_split_ands); go_simp; (try with_reducible rfl)
      simp only [List.getElem_toArray, List.getElem_cons_succ, List.getElem_cons_zero, Act.put, List.setIfInBounds_toArray, List.set_cons_zero, List.set_cons_succ]
      refine tk (i := 4) (v := ?_) rfl ?_ hHeld ?_
      rotate_left
      · intro W hSw; (try dsimp only at hSw); (try go_split_ands); go_simp; (try with_reducible rfl)
      simp only [List.getElem_toArray, List.getElem_cons_succ, List.getElem_cons_zero, Act.put, List.setIfInBounds_toArray, List.set_cons_zero, List.set_cons_succ]
      refine' wpAnyH_take (i := 5) rfl (by kernel_rfl) (by kernel_rfl) (by kernel_rfl) (fun _ _ _ h => h) (yieldsIf_load_mid (by rfl) _ _ rfl _ _ rfl _ _ (fun w h => h.2) hut rfl hsi) hHeld _
      simp only [List.getElem_toArray, List.getElem_cons_succ, List.getElem_cons_zero, Act.put, List.setIfInBounds_toArray, List.set_cons_zero, List.set_cons_succ]
      refine wpAnyH_ready (rs := [6]) (by kernel_rfl) (by simp) ?_
      refine AllReadyH.cons rfl (fun K hK => ?_) AllReadyH.nil
      go_simp
      refine HB.out.mono ?_
      rintro e w5 ⟨rfl, own5, h5, d5⟩
      have e5 : w5.cell? ⟨tb, 2, none⟩ = some (fnV 140) ∧ w5.rangeAt m 0 (bkC x) := ⟨d5.upd.cellv hHeld.1 (fun h => h.1 HO.out.1), d5.upd.range hHeld.2 (fun h => h.1 HO.out.2)⟩
      have H5 := Lib.hid (And.intro h5 (H4.out.2.trans d5))
      clear h5 d5
      refine hK.out _ _ (e5) (fun hH1 => ?_)
      clear hK K
      refine wpAnyH_ready (rs := [7]) (by kernel_rfl) (by simp) ?_
      refine AllReadyH.cons rfl (fun K hK => ?_) AllReadyH.nil
      go_simp
      refine hK.out _ _ (hH1) (fun hH2 => ?_)
      clear hK K
      refine wpAnyH_done (by kernel_rfl) ?_ _
      go_wp2
      go_ret
      exact ⟨rfl, own5, H5.out.1, H5.out.2⟩
end
section
variable {own : Nat → Nat} {w w' : World} {c : Nat} {n : CaN} {p : CaP} {a : CaS} {N : Nat}
theorem ca_ccount (h : CaAt own w c n p a) (st : Int) : Calls Tryz.prog 52 #[ptr c, .int .i64 st] w (CaOut own w c n p a (.int .i64 (pos a.st st).length)) := by
  have HC := Lib.hid (ca_count h st)
  obtain ⟨-, -, -, -, -, cS, -, -, -⟩ := h.cells
  clear h
  go_enter Tryz.func52, Tryz.ntmps52
  go_wp2_with fail
  refine HC.out.mono ?_
  rintro e w3 ⟨rfl, own3, h3, d3⟩
  have H3 := Lib.hid (And.intro h3 d3)
  clear h3 d3 HC cS
  go_wp2
  go_ret
  exact ⟨rfl, own3, H3.out.1, H3.out.2⟩
theorem ca_place (h : CaAt own w c n p a) (k : Int) : Calls Tryz.prog 45 #[ptr c, .int .i64 k] w (CaOut own w c n p a (.tuple #[placeV (getV a.ps k).1 (getV a.ps k).2, .bool (getC a.ps k == 0)])) := by
  obtain ⟨w1, hw1⟩ : ∃ w1, w1 = w.alloc (.cells #[.int .i64 0, .bool false] 108) := ⟨_, rfl⟩
  have hu1 : Upd (fun _ => False) w w1 := by rw [hw1]; exact (Upd.refl _ w).alloc _
  have hg1 : w1.heap[w.heap.size]? = some (.cells #[.int .i64 0, .bool false] 108 (0, 0)) := by rw [hw1]; exact heap_alloc_last w _ rfl
  obtain ⟨m, hm⟩ : ∃ m, m = w.heap.size := ⟨_, rfl⟩
  have hm0 : own m = 0 := h.far _ (by omega)
  rw [← hm] at hg1
  have h1 := h.new hu1
  have d1 := h.didNew hu1
  have HG := Lib.hid (ca_get h1 k)
  have hcl := h.clt
  have HL := Lib.hid (And.intro h.nib.lt h.tur.lt)
  obtain ⟨-, -, -, -, d4, -, -, -, -⟩ := h.cells
  have HB := Lib.hid (getV_bad (ps := a.ps) (k := k))
  have H := Lib.hid (And.intro d1 (And.intro hg1 hm0))
  have HM := Lib.hid hm
  have HW1 := Lib.hid hw1
  clear h1 h hu1 hg1 hm0 d1 hm hw1
  go_enter Tryz.func45, Tryz.ntmps45
  go_wp2_with fail
  rw [← HW1.out, ← HM.out]
  refine HG.out.mono ?_
  rintro e w2 ⟨rfl, own2, h2, d2⟩
  have g2 := (d2.upd.block m (lt_of_block H.out.2.1) (fun h => h.1 H.out.2.2)).trans H.out.2.1
  have hmo : own2 m = 0 := (d2.old m (lt_of_block H.out.2.1)).trans H.out.2.2
  generalize getV a.ps k = pv at *
  obtain ⟨s, b⟩ := pv
  simp only at *
  have hlm := lt_of_block g2
  have hne1 : m ≠ 0 := fun e => by have := HL.out.1; have := HM.out; omega
  have hne2 : m ≠ 1 := fun e => by have := HL.out.2; have := HM.out; omega
  have e0 := cell_of_block g2 0
  have e1 := cell_of_block g2 1
  have f0 := frozen_of_block g2 0
  have f1 := frozen_of_block g2 1
  simp at e0 e1
  have HN : Hid (∀ u v : Value, ∃ W, W = (((w2.setCell ⟨m, 0, none⟩ u).setCell ⟨m, 1, none⟩ v).alloc (.cells #[.int .i64 s, .bool b] 108)) ∧ CaAt own2 W c n p a ∧ Did own own2 w W ∧ W.cell? ⟨m, 0, none⟩ = some u ∧ W.cell? ⟨m, 1, none⟩ = some v) := by
    intro u v
    have hus : Upd (fun j => j = m) w2 ((w2.setCell ⟨m, 0, none⟩ u).setCell ⟨m, 1, none⟩ v) := (upd_setCell _ _ _ _).trans (upd_setCell _ _ _ _)
    have g3 := heap_setCell_same (heap_setCell_same g2 0 u) 1 v
    have hu3 := (Upd.refl (fun _ => False) ((w2.setCell ⟨m, 0, none⟩ u).setCell ⟨m, 1, none⟩ v)).alloc (.cells #[.int .i64 s, .bool b] 108)
    have h3 := h2.nobody hus (fun j e => by subst e; exact ⟨hmo, hne1, hne2⟩)
    have d3 := ((H.out.1.trans d2).setCell ⟨m, 0, none⟩ (fun hl => by have := HM.out; simp at hl; omega) u).setCell ⟨m, 1, none⟩ (fun hl => by have := HM.out; simp at hl; omega) v
    have g4 := hu3.blockv g3
    refine ⟨_, rfl, h3.new hu3, d3.trans (h3.didNew hu3), ?_, ?_⟩
    · have := cell_of_block g4 0; simpa using this
    · have := cell_of_block g4 1; simpa using this
  clear g2 h2 d2 hmo HG d4 hne1 hne2
  by_cases hc : getC a.ps k = 0
  · rw [hc]
    go_wp2
    obtain ⟨W, hW, h3, d3, k0, k1⟩ := HN.out (.int .i64 s) (.bool b)
    rw [← hW]
    clear HN
    refine bodyPost_ret (v := .tuple #[placeV s b, .bool true]) (by simp [results, Tryz.results45, go_sem, k0, k1]) rfl ⟨by simp [hc], own2, h3, d3⟩
  · have q0 : (getC a.ps k == 0) = false := by simpa using hc
    have hz := HB.out hc
    have hz1 : s = 0 := congrArg Prod.fst hz
    have hz2 : b = false := congrArg Prod.snd hz
    subst hz1 hz2
    generalize getC a.ps k = cd at *
    clear HB hz
    go_wp2
    obtain ⟨W, hW, h3, d3, k0, k1⟩ := HN.out (.int .i64 0) (.bool false)
    rw [← hW]
    clear HN
    refine bodyPost_ret (v := .tuple #[placeV 0 false, .bool false]) (by simp [results, Tryz.results45, go_sem, k0, k1]) rfl ⟨by simp [q0], own2, h3, d3⟩
end
theorem buildZ_run (Z : Bk) (hZ : Z = zB) : ∀ w : World, (Instr.build 23 #[]).run Tryz.prog w = .ok (.agg (bkC Z).toArray) w := by
  intro w; subst hZ; kernel_rfl
theorem wpList_buildZ {ops : Array Oper} {rest : List Oper} {op : Oper} {a : Act} {w : World} {Q : Exit → Act → World → Prop} (hgd : op.guard = none) (ho : op.op = .build 23 #[]) {Z : Bk}
    (hrun : ∀ w : World, (Instr.build 23 #[]).run Tryz.prog w = .ok (.agg (bkC Z).toArray) w)
    (h : wpList Tryz.prog ops Q rest (a.put op.dst (.agg (bkC Z).toArray)) w) : wpList Tryz.prog ops Q (op :: rest) a w := by
  refine wpList_plain hgd fun K' hK' => ?_
  unfold Oper.wp
  simp only [execOp, ho, List.map_toArray, List.map_nil, Sem.run_bind, hrun, Result.andThen_ok]
  exact hK' _ _ h
theorem allocZ_run (Z : Bk) (hZ : Z = zB) : ∀ w : World, (Instr.alloc 23 true (.tuple #[])).run Tryz.prog w = .ok (.pointer (some ⟨w.heap.size, 0, none⟩)) (w.alloc (.cells (bkC Z).toArray 23)) := by
  intro w; subst hZ; kernel_rfl
theorem step_alloc {P : Program} {ops : Array Oper} {o : Oper} {a : Act} {w : World} {K : Act → World → Prop} {Q : Exit → Act → World → Prop} {E : Prop} (hg : o.guard = none) (t : TypeId) (hop : o.op = .alloc t) (cs : Array Value)
    (hrun : ∀ w : World, (Instr.alloc t true (.tuple #[])).run P w = .ok (.pointer (some ⟨w.heap.size, 0, none⟩)) (w.alloc (.cells cs t)))
    (hK : K (a.put o.dst (.pointer (some ⟨w.heap.size, 0, none⟩))) (w.alloc (.cells cs t))) : if Region.wanted o (yielded ops a.tmps) = true then Oper.wp P o a w K Q else E := by
  have hw : Region.wanted o (yielded ops a.tmps) = true := by simp [Region.wanted, hg]
  rw [if_pos hw]
  unfold Oper.wp
  simp only [execOp, hop, Sem.run_bind, hrun, Result.andThen_ok]
  exact hK
end Go.Proofs.YtnadilfobmgebaaGreatDoor
