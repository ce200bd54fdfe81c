/- The document's answer of layer 14: where each part begins. -/
import Derived.Test.YtnadilfobmgebaaGreatDoorG04
import Derived.Deep.LoopGhost
import Derived.Deep.CutBlock
namespace Go.Proofs.YtnadilfobmgebaaGreatDoor
open Go Go.RowKit
def NdAt (sl : Int) (q : Nat) : Prop := 1 ≤ q ∧ q ≤ 5000 ∧ (q = 1 ∨ 4 * ((q : Int) - 1) < sl) ∧ (sl ≤ 4 * (q : Int) ∨ q = 5000)
abbrev TestsAt (bl sl jo pa lo ba : Int) (nd : Nat) : Prop := (1 ≤ bl ∧ bl ≤ 4096) ∧ (1 ≤ sl ∧ sl ≤ 1024) ∧ (4 ≤ jo ∧ jo ≤ 1024) ∧ ((nd : Int) ≤ pa ∧ pa ≤ 4096) ∧ (1 ≤ lo ∧ lo ≤ 1024) ∧ (1 ≤ ba ∧ ba ≤ 64)
abbrev layI (sl jo pa lo : Int) : List Int := [1, 1 + 2 * pa, 1 + 2 * pa + jo, 1 + 2 * pa + jo + lo, 1 + 2 * pa + jo + lo + lo, 1 + 2 * pa + jo + lo + lo + lo, 1 + 2 * pa + jo + lo + lo + lo + sl]
def RefSays (bl sl jo pa lo ba : Int) (L : List Int) (ok : Bool) : Prop :=
  ∃ nd, NdAt sl nd ∧ ((ok = true ∧ TestsAt bl sl jo pa lo ba nd ∧ 1 + 2 * pa + jo + lo + lo + lo + sl ≤ 4096 ∧ L = layI sl jo pa lo) ∨ (ok = false ∧ ¬ (TestsAt bl sl jo pa lo ba nd ∧ 1 + 2 * pa + jo + lo + lo + lo + sl ≤ 4096)))
def RefOut (w : World) (bl sl jo pa lo ba : Int) (e : Ending) (w' : World) : Prop := ∃ L ok, e = .returned (.tuple #[.agg (L.map (Value.int .i64)).toArray, .bool ok]) ∧ L.length = 7 ∧ RefSays bl sl jo pa lo ba L ok ∧ Below w.heap.size w w'
theorem cell_keep_setP {w : World} {g i k : Nat} {v u : Value} (h : w.cell? ⟨g, i, none⟩ = some v) (hne : ¬ k = i) : (w.setCell ⟨g, k, none⟩ u).cell? ⟨g, i, none⟩ = some v := by
  rw [World.cell?_setCell_other _ _ _ _ (fun e => hne (congrArg Addr.off e)), h]
theorem info85 : (Tryz.prog.info? 85).map (·.size) = some 7 := by kernel_rfl
abbrev iV (x : Int) : Value := .int .i64 x
theorem cellI {W : World} {b k : Nat} {T : TypeId} {z : Nat × Nat} (L : List Int) (h : W.heap[b]? = some (.cells (L.map iV).toArray T z)) (hk : k < L.length) : W.cell? ⟨b, k, none⟩ = some (.int .i64 (L.getD k 0)) := by
  rw [cell_of_block h]
  simp [hk]
def outL (P : List Int) (k : Nat) : List Int := (List.range 7).map fun j => if j ≤ k then P.getD j 0 else 0
set_option maxRecDepth 100000 in
set_option maxHeartbeats 4000000 in
theorem rplan (bl sl jo pa lo ba : Int) (w : World) :
    Calls Tryz.prog 35 #[.agg ([iV bl, iV sl, iV jo, iV pa, iV lo, iV ba] : List Value).toArray] w (RefOut w bl sl jo pa lo ba) := by
  obtain ⟨w1, hw1⟩ : ∃ w1, w1 = (w.alloc (.cells ([iV bl, iV sl, iV jo, iV pa, iV lo, iV ba] : List Value).toArray 88)).alloc (.cells #[iV 0, iV 0, iV 0, iV 0, iV 0, iV 0, iV 0] 85) := ⟨_, rfl⟩
  have g0 : w1.heap[w.heap.size]? = some (.cells ([iV bl, iV sl, iV jo, iV pa, iV lo, iV ba] : List Value).toArray 88 (0, 0)) := by rw [hw1]; exact (Below.heap_alloc _ _ _ (by simp)).trans (heap_alloc_last w _ rfl)
  have g1 : w1.heap[w.heap.size + 1]? = some (.cells #[iV 0, iV 0, iV 0, iV 0, iV 0, iV 0, iV 0] 85 (0, 0)) := by rw [hw1]; exact heap_alloc_last _ _ (by simp)
  have hb1 : Below w.heap.size w w1 := by rw [hw1]; exact ((Below.refl _ w).alloc (Nat.le_refl _) _).alloc (by simp) _
  have hs1 : w1.heap.size = w.heap.size + 2 := by rw [hw1]; simp
  have k1 : w1.cell? ⟨w.heap.size, 1, none⟩ = some (.int .i64 sl) := cell_of_block g0 1
  have HG := Lib.hid (And.intro g0 (And.intro g1 (And.intro hb1 hs1)))
  have HW := Lib.hid hw1
  clear g0 g1 hb1 hw1 hs1
  go_enter Tryz.func35, Tryz.ntmps35
  go_upto_block 0 with fail
  rw [← HW.out]
  go_cut [4] (fun s4 wx => ∃ q : Nat, s4 = .int .i64 (q : Int) ∧ NdAt sl q ∧ wx = w1)
  case first =>
    go_wp2_with fail
    go_loopg [4] 5000 (fun g i wr => ∃ q : Nat, q + g = 5001 ∧ i = .int .i64 (q : Int) ∧ (1 ≤ q ∧ q ≤ 5000) ∧ (q = 1 ∨ 4 * ((q : Int) - 1) < sl) ∧ wr = w1)
    case atStart => exact ⟨1, by omega, rfl, ⟨by omega, by omega⟩, .inl rfl, rfl⟩
    case round =>
      obtain ⟨q, hq, rfl, hq1, hq2, hwr⟩ := hrel
      subst hwr
      have HQ := Lib.hid hq2
      have HQ1 := Lib.hid hq1
      clear hq2
      by_cases h1 : 4 * (q : Int) < sl
      · have p1 : decide (sl > 4 * (q : Int)) = true := by simpa using h1
        by_cases h2 : (q : Int) < 5000
        · have p2 : decide ((q : Int) < 5000) = true := by simpa using h2
          have HH1 := Lib.hid h1
          clear h1
          go_wp2
          go_roundg (gk - 1)
          case measure => omega
          case rel => exact ⟨q + 1, by omega, by go_num, ⟨by omega, by have := HQ1.out; omega⟩, .inr (by have := HH1.out; omega), rfl⟩
        · have p2 : decide ((q : Int) < 5000) = false := by simpa using h2
          have HH1 := Lib.hid h1
          have HQ5 : Hid (q = 5000) := (by have := HQ1.out; omega : q = 5000)
          clear h1
          go_wp2_with fail
          go_meet
          case rel => exact ⟨q, rfl, ⟨HQ1.out.1, HQ1.out.2, HQ.out, .inr HQ5.out⟩, rfl⟩
      · have p1 : decide (sl > 4 * (q : Int)) = false := by simp; omega
        have HH1 := Lib.hid h1
        clear h1
        go_wp2_with fail
        go_meet
        case rel => exact ⟨q, rfl, ⟨HQ1.out.1, HQ1.out.2, HQ.out, .inl (by have := HH1.out; omega)⟩, rfl⟩
  case rest =>
    obtain ⟨nd, rfl, hnd, rfl⟩ := hcut
    have HND := Lib.hid hnd
    have hnd1 := hnd.1
    have hnd2 := hnd.2.1
    clear hnd
    go_wp2_with fail
    have hgs := HG.out.2.2.2
    obtain ⟨SL, hSL⟩ : ∃ SL : List Int, SL = [bl, sl, jo, pa, lo, ba] := ⟨_, rfl⟩
    obtain ⟨LO, hLO⟩ : ∃ LO : List Int, LO = [1, 1, 4, (nd : Int), 1, 1] := ⟨_, rfl⟩
    obtain ⟨HI, hHI⟩ : ∃ HI : List Int, HI = [4096, 1024, 1024, 4096, 1024, 64] := ⟨_, rfl⟩
    obtain ⟨w5, hw5⟩ : ∃ w5, w5 = (wc.alloc (.cells (HI.map iV).toArray 88)).alloc (.cells (LO.map iV).toArray 88) := ⟨_, rfl⟩
    rw [show (wc.alloc (.cells #[iV 4096, iV 1024, iV 1024, iV 4096, iV 1024, iV 64] 88)).alloc (.cells #[iV 1, iV 1, iV 4, iV (nd : Int), iV 1, iV 1] 88) = w5 from by rw [hw5, hHI, hLO]; rfl]
    have hu5 : Upd (fun _ => False) wc w5 := by rw [hw5]; exact ((Upd.refl _ wc).alloc _).alloc _
    have gS : w5.heap[w.heap.size]? = some (.cells (SL.map iV).toArray 88 (0, 0)) := by rw [hSL]; exact hu5.blockv HG.out.1
    have gR := hu5.blockv HG.out.2.1
    have gH : w5.heap[wc.heap.size]? = some (.cells (HI.map iV).toArray 88 (0, 0)) := by rw [hw5]; exact (Below.heap_alloc _ _ _ (by simp)).trans (heap_alloc_last wc _ rfl)
    have gL : w5.heap[wc.heap.size + 1]? = some (.cells (LO.map iV).toArray 88 (0, 0)) := by rw [hw5]; exact heap_alloc_last _ _ (by simp)
    have hb5 : Below w.heap.size w w5 := below_upd HG.out.2.2.1 hu5 (Nat.le_refl _) (fun k h => h.elim)
    have hz5 : w5.heap.size = w.heap.size + 4 := by rw [hw5]; simp; omega
    generalize wc.heap.size = hh at *
    have HT : Hid ((TestsAt bl sl jo pa lo ba nd → ∀ j, j < 6 → LO.getD j 0 ≤ SL.getD j 0 ∧ SL.getD j 0 ≤ HI.getD j 0) ∧ ((∀ j, j < 6 → LO.getD j 0 ≤ SL.getD j 0 ∧ SL.getD j 0 ≤ HI.getD j 0) → TestsAt bl sl jo pa lo ba nd)) := by
      subst hSL hLO hHI
      refine ⟨fun h j hj => ?_, fun h => ⟨h 0 (by omega), h 1 (by omega), h 2 (by omega), h 3 (by omega), h 4 (by omega), h 5 (by omega)⟩⟩
      obtain ⟨t0, t1, t2, t3, t4, t5⟩ := h
      rcases (show j = 0 ∨ j = 1 ∨ j = 2 ∨ j = 3 ∨ j = 4 ∨ j = 5 by omega) with rfl | rfl | rfl | rfl | rfl | rfl
      · exact t0
      · exact t1
      · exact t2
      · exact t3
      · exact t4
      · exact t5
    have hl6 : SL.length = 6 ∧ LO.length = 6 ∧ HI.length = 6 := by rw [hSL, hLO, hHI]; exact ⟨rfl, rfl, rfl⟩
    obtain ⟨L0, hL0⟩ : ∃ L0 : List Value, L0 = [iV 0, iV 0, iV 0, iV 0, iV 0, iV 0, iV 0] := ⟨_, rfl⟩
    have HL0 : Hid (L0 = [iV 0, iV 0, iV 0, iV 0, iV 0, iV 0, iV 0] ∧ L0.toArray.size = 7 ∧ (Tryz.prog.info? 85).map (·.size) = some L0.toArray.size ∧ L0.toArray.all (·.oneCell') = true ∧ L0.length = 7 ∧ (Tryz.prog.info? 85).map (·.size) = some L0.length) := by
      refine ⟨hL0, by rw [hL0]; rfl, by rw [hL0]; exact info85, all_oneCell_toArray (by intro v hv; rw [hL0] at hv; simp at hv; subst hv; rfl), by rw [hL0]; rfl, by rw [hL0]; exact info85⟩
    have HB5 := Lib.hid (And.intro gS (And.intro gR (And.intro gH (And.intro gL (And.intro hb5 (And.intro hz5 (And.intro hl6 hSL)))))))
    clear hL0 hw5 HG HW k1 gS gR gH gL hb5 hz5 hu5 hgs hLO hHI hSL hl6
    go_loopg [7] 6 (fun g i wr => ∃ k : Nat, k + g = 6 ∧ i = .int .i64 (k : Int) ∧ (∀ j, j < k → LO.getD j 0 ≤ SL.getD j 0 ∧ SL.getD j 0 ≤ HI.getD j 0) ∧ Upd (fun _ => False) w5 wr)
    case atStart => exact ⟨0, by omega, rfl, fun j hj => absurd hj (Nat.not_lt_zero _), Upd.refl _ _⟩
    case round =>
      obtain ⟨k, hk, rfl, hP, hU⟩ := hrel
      obtain ⟨gS, gR, gH, gL, hb5, hz5, hl6, hSL⟩ := HB5.out
      have HP := Lib.hid hP
      clear hP
      by_cases hlt : k < 6
      · have c1 := hU.cellv (cellI (k := k) SL gS (by omega)) (fun h => h)
        have c2 := hU.cellv (cellI (k := k) LO gL (by omega)) (fun h => h)
        have c3 := hU.cellv (cellI (k := k) HI gH (by omega)) (fun h => h)
        have q0 : decide ((k : Int) < 6) = true := by simp; omega
        have q1 : (k : Int) < 6 := by omega
        have q2 : 0 ≤ (k : Int) := by omega
        have HU := Lib.hid hU
        have hN : ∀ hx : ¬ (LO.getD k 0 ≤ SL.getD k 0 ∧ SL.getD k 0 ≤ HI.getD k 0), ¬ TestsAt bl sl jo pa lo ba nd := fun hx ht => hx (HT.out.1 ht k hlt)
        have hS1 : (LO.getD k 0 ≤ SL.getD k 0 ∧ SL.getD k 0 ≤ HI.getD k 0) → ∀ j, j < k + 1 → LO.getD j 0 ≤ SL.getD j 0 ∧ SL.getD j 0 ≤ HI.getD j 0 := fun hx j hj => by
          by_cases e : j = k
          · subst e; exact hx
          · exact HP.out j (by omega)
        generalize SL.getD k 0 = x at *
        generalize LO.getD k 0 = y at *
        generalize HI.getD k 0 = z at *
        have HXX := Lib.hid (And.intro hN hS1)
        clear hN hS1
        by_cases hA : x < y
        · have p1 : decide (x < y) = true := by simpa using hA
          have HN := Lib.hid (HXX.out.1 (by omega))
          clear hA
          go_wp2_with fail
          refine wp_region_held_drew (S := fun W => W.cell? ⟨w.heap.size, k, none⟩ = some (.int .i64 x) ∧ W.cell? ⟨hh + 1, k, none⟩ = some (.int .i64 y) ∧ W.cell? ⟨hh, k, none⟩ = some (.int .i64 z)) (by kernel_rfl) (by (simp only [World.cell?_drew]); exact ⟨c1, c2, c3⟩) (fun hHeld => ?_)
          refine tk (i := 0) (v := ?_) rfl ?_ hHeld ?_
          rotate_left
          · intro W hSw; (try dsimp only at hSw); (try go_split_ands); go_simp; (try with_reducible rfl)
          simp only [List.getElem_toArray, List.getElem_cons_zero, Act.put, List.setIfInBounds_toArray, List.set_cons_zero, List.set_cons_succ]
          refine tk (i := 1) (v := ?_) rfl ?_ hHeld ?_
          rotate_left
          · intro W hSw; (try dsimp only at hSw); (try go_split_ands); go_simp; (try with_reducible rfl)
          simp only [List.getElem_toArray, List.getElem_cons_succ, List.getElem_cons_zero, Act.put, List.setIfInBounds_toArray, List.set_cons_zero, List.set_cons_succ]
          refine tk (i := 2) (v := ?_) rfl ?_ hHeld ?_
          rotate_left
          · intro W hSw; (try dsimp only at hSw); (try go_split_ands); go_simp; (try with_reducible rfl)
          simp only [List.getElem_toArray, List.getElem_cons_succ, List.getElem_cons_zero, Act.put, List.setIfInBounds_toArray, List.set_cons_zero, List.set_cons_succ]
          refine tk (i := 3) (v := ?_) rfl ?_ hHeld ?_
          rotate_left
          · intro W hSw; (try dsimp only at hSw); (try go_split_ands); go_simp; (try with_reducible rfl)
          simp only [List.getElem_toArray, List.getElem_cons_succ, List.getElem_cons_zero, Act.put, List.setIfInBounds_toArray, List.set_cons_zero, List.set_cons_succ]
          refine tk (i := 4) (v := ?_) rfl ?_ hHeld ?_
          rotate_left
          · intro W hSw; (try dsimp only at hSw); (try go_split_ands); go_simp; (try with_reducible rfl)
          simp only [List.getElem_toArray, List.getElem_cons_succ, List.getElem_cons_zero, Act.put, List.setIfInBounds_toArray, List.set_cons_zero, List.set_cons_succ]
          refine tk (i := 5) (v := ?_) rfl ?_ hHeld ?_
          rotate_left
          · intro W hSw; (try dsimp only at hSw); (try go_split_ands); go_simp; (try with_reducible rfl)
          simp only [List.getElem_toArray, List.getElem_cons_succ, List.getElem_cons_zero, Act.put, List.setIfInBounds_toArray, List.set_cons_zero, List.set_cons_succ]
          refine tk (i := 6) (v := ?_) rfl ?_ hHeld ?_
          rotate_left
          · intro W hSw; (try dsimp only at hSw); (try go_split_ands); go_simp; (try with_reducible rfl)
          simp only [List.getElem_toArray, List.getElem_cons_succ, List.getElem_cons_zero, Act.put, List.setIfInBounds_toArray, List.set_cons_zero, List.set_cons_succ]
          refine tk (i := 7) (v := ?_) rfl ?_ hHeld ?_
          rotate_left
          · intro W hSw; (try dsimp only at hSw); (try go_split_ands); go_simp; (try with_reducible rfl)
          simp only [List.getElem_toArray, List.getElem_cons_succ, List.getElem_cons_zero, Act.put, List.setIfInBounds_toArray, List.set_cons_zero, List.set_cons_succ]
          refine' wpAnyH_take (i := 8) rfl (by kernel_rfl) (by kernel_rfl) (by kernel_rfl) (fun _ _ _ h => h) (Or.inr ⟨by rfl, rfl⟩) hHeld _
          simp only [List.getElem_toArray, List.getElem_cons_succ, List.getElem_cons_zero, Act.put, List.setIfInBounds_toArray, List.set_cons_zero, List.set_cons_succ]
          refine' wpAnyH_take (i := 9) rfl (by kernel_rfl) (by kernel_rfl) (by kernel_rfl) (fun _ _ _ h => h) (Or.inr ⟨by rfl, rfl⟩) hHeld _
          simp only [List.getElem_toArray, List.getElem_cons_succ, List.getElem_cons_zero, Act.put, List.setIfInBounds_toArray, List.set_cons_zero, List.set_cons_succ]
          refine' wpAnyH_take (i := 10) rfl (by kernel_rfl) (by kernel_rfl) (by kernel_rfl) (fun _ _ _ h => h) (Or.inr ⟨by rfl, rfl⟩) hHeld _
          simp only [List.getElem_toArray, List.getElem_cons_succ, List.getElem_cons_zero, Act.put, List.setIfInBounds_toArray, List.set_cons_zero, List.set_cons_succ]
          refine' wpAnyH_take (i := 11) rfl (by kernel_rfl) (by kernel_rfl) (by kernel_rfl) (fun _ _ _ h => h) (Or.inr ⟨by rfl, rfl⟩) hHeld _
          simp only [List.getElem_toArray, List.getElem_cons_succ, List.getElem_cons_zero, Act.put, List.setIfInBounds_toArray, List.set_cons_zero, List.set_cons_succ]
          refine' wpAnyH_take (i := 12) rfl (by kernel_rfl) (by kernel_rfl) (by kernel_rfl) (fun _ _ _ h => h) (Or.inr ⟨by rfl, rfl⟩) hHeld _
          simp only [List.getElem_toArray, List.getElem_cons_succ, List.getElem_cons_zero, Act.put, List.setIfInBounds_toArray, List.set_cons_zero, List.set_cons_succ]
          refine' wpAnyH_take (i := 13) rfl (by kernel_rfl) (by kernel_rfl) (by kernel_rfl) (fun _ _ _ h => h) (Or.inr ⟨by rfl, rfl⟩) hHeld _
          simp only [List.getElem_toArray, List.getElem_cons_succ, List.getElem_cons_zero, Act.put, List.setIfInBounds_toArray, List.set_cons_zero, List.set_cons_succ]
          refine' wpAnyH_take (i := 14) rfl (by kernel_rfl) (by kernel_rfl) (by kernel_rfl) (fun _ _ _ h => h) (Or.inr ⟨by rfl, rfl⟩) hHeld _
          simp only [List.getElem_toArray, List.getElem_cons_succ, List.getElem_cons_zero, Act.put, List.setIfInBounds_toArray, List.set_cons_zero, List.set_cons_succ]
          refine wpAnyH_ready (rs := [15]) (by kernel_rfl) (by simp) ?_
          refine AllReadyH.cons rfl (fun K hK => ?_) AllReadyH.nil
          go_simp
          refine hK.out _ _ (hHeld) (fun hH1 => ?_)
          clear hK K
          refine wpAnyH_done (by kernel_rfl) ?_ _
          have hud := hU.drew
          have gR2 := hud.blockv gR
          have hb6 : Below w.heap.size w wr.drew := below_upd hb5 hud (Nat.le_refl _) (fun k h => h.elim)
          have hth : wr.drew.there (w.heap.size + 1) 0 7 := fun j hj => by
            rw [cell_of_block gR2, frozen_of_block gR2, Nat.zero_add]
            exact ⟨by rw [Array.getElem?_eq_getElem (by simpa using hj)]; rfl, rfl⟩
          have HF := Lib.hid (And.intro hb6 hth)
          clear hud gR2 hb6 hth c1 c2 c3
          go_wp2_with (first
            | (refine wpList_store_mid rfl _ _ _ rfl (w.heap.size + 1) 0 L0.toArray rfl (by rw [HL0.out.1]; rfl) (by rw [HL0.out.2.1]; exact HF.out.2) HL0.out.2.2.1 HL0.out.2.2.2.1 ?_)
            | fail)
          refine bodyPost_ret (results_mid2 rfl _ _ (w.heap.size + 1) 0 L0 _ rfl (World.rangeAt_setCells_same _ _ _ _ (by rw [HL0.out.2.2.2.2.1]; exact HF.out.2)) Tryz.underlying85 rfl HL0.out.2.2.2.2.2) rfl ⟨[0, 0, 0, 0, 0, 0, 0], false, by rw [HL0.out.1]; rfl, rfl, ⟨nd, HND.out, .inr ⟨rfl, fun ht => HN.out ht.1⟩⟩, below_upd HF.out.1 (upd_row _ (w.heap.size + 1) 0 _) (Nat.le_refl _) (fun k h => by omega)⟩
        · have p1 : decide (x < y) = false := by simpa using hA
          have HA := Lib.hid hA
          clear hA
          go_wp2_with fail
          refine wp_region_held_drew (S := fun W => W.cell? ⟨w.heap.size, k, none⟩ = some (.int .i64 x) ∧ W.cell? ⟨hh + 1, k, none⟩ = some (.int .i64 y) ∧ W.cell? ⟨hh, k, none⟩ = some (.int .i64 z)) (by kernel_rfl) (by (simp only [World.cell?_drew]); exact ⟨c1, c2, c3⟩) (fun hHeld => ?_)
          refine tk (i := 0) (v := ?_) rfl ?_ hHeld ?_
          rotate_left
          · intro W hSw; (try dsimp only at hSw); (try go_split_ands); go_simp; (try with_reducible rfl)
          simp only [List.getElem_toArray, List.getElem_cons_zero, Act.put, List.setIfInBounds_toArray, List.set_cons_zero, List.set_cons_succ]
          refine tk (i := 1) (v := ?_) rfl ?_ hHeld ?_
          rotate_left
          · intro W hSw; (try dsimp only at hSw); (try go_split_ands); go_simp; (try with_reducible rfl)
          simp only [List.getElem_toArray, List.getElem_cons_succ, List.getElem_cons_zero, Act.put, List.setIfInBounds_toArray, List.set_cons_zero, List.set_cons_succ]
          refine tk (i := 2) (v := ?_) rfl ?_ hHeld ?_
          rotate_left
          · intro W hSw; (try dsimp only at hSw); (try go_split_ands); go_simp; (try with_reducible rfl)
          simp only [List.getElem_toArray, List.getElem_cons_succ, List.getElem_cons_zero, Act.put, List.setIfInBounds_toArray, List.set_cons_zero, List.set_cons_succ]
          refine tk (i := 3) (v := ?_) rfl ?_ hHeld ?_
          rotate_left
          · intro W hSw; (try dsimp only at hSw); (try go_split_ands); go_simp; (try with_reducible rfl)
          simp only [List.getElem_toArray, List.getElem_cons_succ, List.getElem_cons_zero, Act.put, List.setIfInBounds_toArray, List.set_cons_zero, List.set_cons_succ]
          refine tk (i := 4) (v := ?_) rfl ?_ hHeld ?_
          rotate_left
          · intro W hSw; (try dsimp only at hSw); (try go_split_ands); go_simp; (try with_reducible rfl)
          simp only [List.getElem_toArray, List.getElem_cons_succ, List.getElem_cons_zero, Act.put, List.setIfInBounds_toArray, List.set_cons_zero, List.set_cons_succ]
          refine tk (i := 5) (v := ?_) rfl ?_ hHeld ?_
          rotate_left
          · intro W hSw; (try dsimp only at hSw); (try go_split_ands); go_simp; (try with_reducible rfl)
          simp only [List.getElem_toArray, List.getElem_cons_succ, List.getElem_cons_zero, Act.put, List.setIfInBounds_toArray, List.set_cons_zero, List.set_cons_succ]
          refine tk (i := 6) (v := ?_) rfl ?_ hHeld ?_
          rotate_left
          · intro W hSw; (try dsimp only at hSw); (try go_split_ands); go_simp; (try with_reducible rfl)
          simp only [List.getElem_toArray, List.getElem_cons_succ, List.getElem_cons_zero, Act.put, List.setIfInBounds_toArray, List.set_cons_zero, List.set_cons_succ]
          refine tk (i := 7) (v := ?_) rfl ?_ hHeld ?_
          rotate_left
          · intro W hSw; (try dsimp only at hSw); (try go_split_ands); go_simp; (try with_reducible rfl)
          simp only [List.getElem_toArray, List.getElem_cons_succ, List.getElem_cons_zero, Act.put, List.setIfInBounds_toArray, List.set_cons_zero, List.set_cons_succ]
          refine tk (i := 8) (v := ?_) rfl ?_ hHeld ?_
          rotate_left
          · intro W hSw; (try dsimp only at hSw); (try go_split_ands); go_simp; (try with_reducible rfl)
          simp only [List.getElem_toArray, List.getElem_cons_succ, List.getElem_cons_zero, Act.put, List.setIfInBounds_toArray, List.set_cons_zero, List.set_cons_succ]
          refine tk (i := 9) (v := ?_) rfl ?_ hHeld ?_
          rotate_left
          · intro W hSw; (try dsimp only at hSw); (try go_split_ands); go_simp; (try with_reducible rfl)
          simp only [List.getElem_toArray, List.getElem_cons_succ, List.getElem_cons_zero, Act.put, List.setIfInBounds_toArray, List.set_cons_zero, List.set_cons_succ]
          refine tk (i := 10) (v := ?_) rfl ?_ hHeld ?_
          rotate_left
          · intro W hSw; (try dsimp only at hSw); (try go_split_ands); go_simp; (try with_reducible rfl)
          simp only [List.getElem_toArray, List.getElem_cons_succ, List.getElem_cons_zero, Act.put, List.setIfInBounds_toArray, List.set_cons_zero, List.set_cons_succ]
          refine tk (i := 11) (v := ?_) rfl ?_ hHeld ?_
          rotate_left
          · intro W hSw; (try dsimp only at hSw); (try go_split_ands); go_simp; (try with_reducible rfl)
          simp only [List.getElem_toArray, List.getElem_cons_succ, List.getElem_cons_zero, Act.put, List.setIfInBounds_toArray, List.set_cons_zero, List.set_cons_succ]
          refine tk (i := 12) (v := ?_) rfl ?_ hHeld ?_
          rotate_left
          · intro W hSw; (try dsimp only at hSw); (try go_split_ands); go_simp; (try with_reducible rfl)
          simp only [List.getElem_toArray, List.getElem_cons_succ, List.getElem_cons_zero, Act.put, List.setIfInBounds_toArray, List.set_cons_zero, List.set_cons_succ]
          refine tk (i := 13) (v := ?_) rfl ?_ hHeld ?_
          rotate_left
          · intro W hSw; (try dsimp only at hSw); (try go_split_ands); go_simp; (try with_reducible rfl)
          simp only [List.getElem_toArray, List.getElem_cons_succ, List.getElem_cons_zero, Act.put, List.setIfInBounds_toArray, List.set_cons_zero, List.set_cons_succ]
          refine tk (i := 14) (v := ?_) rfl ?_ hHeld ?_
          rotate_left
          · intro W hSw; (try dsimp only at hSw); (try go_split_ands); go_simp; (try with_reducible rfl)
          simp only [List.getElem_toArray, List.getElem_cons_succ, List.getElem_cons_zero, Act.put, List.setIfInBounds_toArray, List.set_cons_zero, List.set_cons_succ]
          refine wpAnyH_ready (rs := [15]) (by kernel_rfl) (by simp) ?_
          refine AllReadyH.cons rfl (fun K hK => ?_) AllReadyH.nil
          go_simp
          refine hK.out _ _ (hHeld) (fun hH1 => ?_)
          clear hK K
          refine wpAnyH_done (by kernel_rfl) ?_ _
          by_cases hB : z < x
          · have HN := Lib.hid (HXX.out.1 (by omega))
            have hud := hU.drew
            have gR2 := hud.blockv gR
            have hb6 : Below w.heap.size w wr.drew := below_upd hb5 hud (Nat.le_refl _) (fun k h => h.elim)
            have hth : wr.drew.there (w.heap.size + 1) 0 7 := fun j hj => by
              rw [cell_of_block gR2, frozen_of_block gR2, Nat.zero_add]
              exact ⟨by rw [Array.getElem?_eq_getElem (by simpa using hj)]; rfl, rfl⟩
            have HF := Lib.hid (And.intro hb6 hth)
            clear hud gR2 hb6 hth c1 c2 c3
            go_wp2_with (first
              | (refine wpList_store_mid rfl _ _ _ rfl (w.heap.size + 1) 0 L0.toArray rfl (by rw [HL0.out.1]; rfl) (by rw [HL0.out.2.1]; exact HF.out.2) HL0.out.2.2.1 HL0.out.2.2.2.1 ?_)
              | fail)
            refine bodyPost_ret (results_mid2 rfl _ _ (w.heap.size + 1) 0 L0 _ rfl (World.rangeAt_setCells_same _ _ _ _ (by rw [HL0.out.2.2.2.2.1]; exact HF.out.2)) Tryz.underlying85 rfl HL0.out.2.2.2.2.2) rfl ⟨[0, 0, 0, 0, 0, 0, 0], false, by rw [HL0.out.1]; rfl, rfl, ⟨nd, HND.out, .inr ⟨rfl, fun ht => HN.out ht.1⟩⟩, below_upd HF.out.1 (upd_row _ (w.heap.size + 1) 0 _) (Nat.le_refl _) (fun k h => by omega)⟩
          · have HS := Lib.hid (HXX.out.2 (by have := HA.out; omega))
            go_wp2
            go_roundg (gk - 1)
            case measure => omega
            case rel => exact ⟨k + 1, by omega, by go_num, HS.out, HU.out.drew⟩
      · obtain rfl : k = 6 := by omega
        have hPP := HT.out.2 HP.out
        have HPP := Lib.hid hPP
        obtain ⟨-, ⟨s1, s2⟩, ⟨j1, j2⟩, ⟨pa1, pa2⟩, ⟨l1, l2⟩, -⟩ := hPP
        have c1 := hU.cellv (cellI (k := 1) SL gS (by omega)) (fun h => h)
        have c2 := hU.cellv (cellI (k := 2) SL gS (by omega)) (fun h => h)
        have c3 := hU.cellv (cellI (k := 3) SL gS (by omega)) (fun h => h)
        have c4 := hU.cellv (cellI (k := 4) SL gS (by omega)) (fun h => h)
        rw [hSL] at c1 c2 c3 c4
        simp at c1 c2 c3 c4
        have q0 : decide (((6 : Nat) : Int) < 6) = false := by decide
        have gR2 := hU.blockv gR
        have hb6 : Below w.heap.size w wr := below_upd hb5 hU (Nat.le_refl _) (fun k h => h.elim)
        have hz6 := hU.size
        have H6 := Lib.hid (And.intro gR2 (And.intro hb6 (Nat.le_trans (Nat.le_of_eq hz5.symm) hz6)))
        clear gS gR gH gL hb5 hz5 gR2 hb6 hz6 hU HB5 hSL hl6
        go_wp2_with fail
        obtain ⟨P, hP⟩ : ∃ P : List Int, P = layI sl jo pa lo := ⟨_, rfl⟩
        obtain ⟨Z, hZ⟩ : ∃ Z : List Int, Z = [2 * pa, jo, lo, lo, lo, sl] := ⟨_, rfl⟩
        obtain ⟨w8, hw8⟩ : ∃ w8, w8 = (wr.alloc (.cells (Z.map iV).toArray 88)).alloc (.cells ((outL P 0).map iV).toArray 85) := ⟨_, rfl⟩
        rw [show (wr.alloc (.cells #[iV (2 * pa), iV jo, iV lo, iV lo, iV lo, iV sl] 88)).alloc (.cells #[iV 1, iV 0, iV 0, iV 0, iV 0, iV 0, iV 0] 85) = w8 from by rw [hw8, hP, hZ]; rfl]
        have hu8 : Upd (fun _ => False) wr w8 := by rw [hw8]; exact ((Upd.refl _ wr).alloc _).alloc _
        have gZ : w8.heap[wr.heap.size]? = some (.cells (Z.map iV).toArray 88 (0, 0)) := by rw [hw8]; exact (Below.heap_alloc _ _ _ (by simp)).trans (heap_alloc_last wr _ rfl)
        have gO : w8.heap[wr.heap.size + 1]? = some (.cells ((outL P 0).map iV).toArray 85 (0, 0)) := by rw [hw8]; exact heap_alloc_last _ _ (by simp)
        have gR8 := hu8.blockv H6.out.1
        have hb8 : Below w.heap.size w w8 := below_upd H6.out.2.1 hu8 (Nat.le_refl _) (fun k h => h.elim)
        have hz8 : w.heap.size + 4 ≤ wr.heap.size := H6.out.2.2
        obtain ⟨g9, hg9⟩ : ∃ g9, g9 = wr.heap.size + 1 := ⟨_, rfl⟩
        rw [← hg9] at gO ⊢
        generalize wr.heap.size = g8 at *
        have hne : ¬ g8 = g9 := by omega
        have HQ : Hid (∀ k, k < 6 → IntKind.i64.wrap ((outL P k).getD k 0 + Z.getD k 0) = P.getD (k + 1) 0 ∧ ((outL P k).map iV).toArray.setIfInBounds (k + 1) (iV (P.getD (k + 1) 0)) = ((outL P (k + 1)).map iV).toArray) := fun k hk => by
          subst hP hZ
          rcases (show k = 0 ∨ k = 1 ∨ k = 2 ∨ k = 3 ∨ k = 4 ∨ k = 5 by omega) with rfl | rfl | rfl | rfl | rfl | rfl
          all_goals exact ⟨IntWalk.i64_in _ (by simp only [outL, layI, List.getD]; simp; omega), rfl⟩
        have HO : Hid (∀ k, (outL P k).length = 7) := fun k => by simp [outL]
        have H8 := Lib.hid (And.intro gZ (And.intro gR8 (And.intro hb8 (And.intro hz8 (And.intro hg9 (And.intro hP hZ))))))
        have hO := Lib.hid gO
        clear gZ gR8 hb8 hz8 hg9 hw8 hu8 H6 c1 c2 c3 c4 gO hP hZ q0
        go_loopg [10] 6 (fun g i wr => ∃ k : Nat, k + g = 6 ∧ i = .int .i64 (k : Int) ∧ wr.heap[g9]? = some (.cells ((outL P k).map iV).toArray 85 (0, 0)) ∧ Upd (fun j => j = g9) w8 wr)
        case atStart => exact ⟨0, by omega, rfl, hO.out, Upd.refl _ _⟩
        case round =>
          obtain ⟨k, hk, rfl, gO, hU⟩ := hrel
          obtain ⟨gZ, gR, hb8, hz8, hg9, hP, hZ⟩ := H8.out
          by_cases hlt : k < 6
          · have hzl : Z.length = 6 := by rw [hZ]; rfl
            have hgd := (((Upd.refl (fun _ => False) wr).drew).blockv gO)
            have c1 := cellI (k := k) (outL P k) gO (by rw [HO.out]; omega)
            have c2 := hU.cellv (cellI (k := k) Z gZ (by omega)) (fun h => hne h)
            have c3 := cellI (k := k + 1) (outL P k) hgd (by rw [HO.out]; omega)
            have f3 := frozen_of_block hgd (k + 1)
            obtain ⟨e1, e2⟩ := HQ.out k hlt
            have hU2 := hU.trans (((Upd.refl (fun j => j = g9) wr).drew).trans (upd_setCell wr.drew g9 (k + 1) (.int .i64 (P.getD (k + 1) 0))))
            have gO2 := heap_setCell_same hgd (k + 1) (.int .i64 (P.getD (k + 1) 0))
            rw [show (Value.int .i64 (P.getD (k + 1) 0)) = iV (P.getD (k + 1) 0) from rfl, e2] at gO2
            have HX := Lib.hid (And.intro gO2 hU2)
            generalize (outL P k).getD k 0 = x at *
            generalize (outL P k).getD (k + 1) 0 = x' at *
            generalize Z.getD k 0 = y at *
            generalize P.getD (k + 1) 0 = z at *
            have q0 : decide ((k : Int) < 6) = true := by simp; omega
            have q1 : (k : Int) < 6 := by omega
            have q2 : (k : Int) < 7 := by omega
            have q3 : IntKind.i64.wrap ((k : Int) + 1) = (k : Int) + 1 := IntWalk.i64_in _ (by omega)
            have q4 : (k : Int) + 1 < 7 := by omega
            have q5 : 0 ≤ (k : Int) + 1 := by omega
            have q6 : ((k : Int) + 1).toNat = k + 1 := by omega
            clear gO2 hU2 gO hU gZ gR hb8 hz8 hg9 hgd e2 hzl hP hZ
            go_wp2_with fail
            refine wp_region_held_drew (S := fun W => W.cell? ⟨g9, k, none⟩ = some (.int .i64 x) ∧ W.cell? ⟨g8, k, none⟩ = some (.int .i64 y)) (by kernel_rfl) (by (simp only [World.cell?_drew]); exact ⟨c1, c2⟩) (fun hHeld => ?_)
            refine tk (i := 0) (v := ?_) rfl ?_ hHeld ?_
            rotate_left
            · intro W hSw; (try dsimp only at hSw); (try go_split_ands); go_simp; (try with_reducible rfl)
            simp only [List.getElem_toArray, List.getElem_cons_zero, Act.put, List.setIfInBounds_toArray, List.set_cons_zero, List.set_cons_succ]
            refine tk (i := 1) (v := ?_) rfl ?_ hHeld ?_
            rotate_left
            · intro W hSw; (try dsimp only at hSw); (try go_split_ands); go_simp; (try with_reducible rfl)
            simp only [List.getElem_toArray, List.getElem_cons_succ, List.getElem_cons_zero, Act.put, List.setIfInBounds_toArray, List.set_cons_zero, List.set_cons_succ]
            refine tk (i := 2) (v := ?_) rfl ?_ hHeld ?_
            rotate_left
            · intro W hSw; (try dsimp only at hSw); (try go_split_ands); go_simp; (try with_reducible rfl)
            simp only [List.getElem_toArray, List.getElem_cons_succ, List.getElem_cons_zero, Act.put, List.setIfInBounds_toArray, List.set_cons_zero, List.set_cons_succ]
            refine tk (i := 3) (v := ?_) rfl ?_ hHeld ?_
            rotate_left
            · intro W hSw; (try dsimp only at hSw); (try go_split_ands); go_simp; (try with_reducible rfl)
            simp only [List.getElem_toArray, List.getElem_cons_succ, List.getElem_cons_zero, Act.put, List.setIfInBounds_toArray, List.set_cons_zero, List.set_cons_succ]
            refine tk (i := 4) (v := ?_) rfl ?_ hHeld ?_
            rotate_left
            · intro W hSw; (try dsimp only at hSw); (try go_split_ands); go_simp; (try with_reducible rfl)
            simp only [List.getElem_toArray, List.getElem_cons_succ, List.getElem_cons_zero, Act.put, List.setIfInBounds_toArray, List.set_cons_zero, List.set_cons_succ]
            refine tk (i := 5) (v := ?_) rfl ?_ hHeld ?_
            rotate_left
            · intro W hSw; (try dsimp only at hSw); (try go_split_ands); go_simp; (try with_reducible rfl)
            simp only [List.getElem_toArray, List.getElem_cons_succ, List.getElem_cons_zero, Act.put, List.setIfInBounds_toArray, List.set_cons_zero, List.set_cons_succ]
            refine tk (i := 6) (v := ?_) rfl ?_ hHeld ?_
            rotate_left
            · intro W hSw; (try dsimp only at hSw); (try go_split_ands); go_simp; (try with_reducible rfl)
            simp only [List.getElem_toArray, List.getElem_cons_succ, List.getElem_cons_zero, Act.put, List.setIfInBounds_toArray, List.set_cons_zero, List.set_cons_succ]
            refine tk (i := 7) (v := ?_) rfl ?_ hHeld ?_
            rotate_left
            · intro W hSw; (try dsimp only at hSw); (try go_split_ands); go_simp; (try with_reducible rfl)
            simp only [List.getElem_toArray, List.getElem_cons_succ, List.getElem_cons_zero, Act.put, List.setIfInBounds_toArray, List.set_cons_zero, List.set_cons_succ]
            refine tk (i := 8) (v := ?_) rfl ?_ hHeld ?_
            rotate_left
            · intro W hSw; (try dsimp only at hSw); (try go_split_ands); go_simp; (try with_reducible rfl)
            simp only [List.getElem_toArray, List.getElem_cons_succ, List.getElem_cons_zero, Act.put, List.setIfInBounds_toArray, List.set_cons_zero, List.set_cons_succ]
            refine tk (i := 9) (v := ?_) rfl ?_ hHeld ?_
            rotate_left
            · intro W hSw; (try dsimp only at hSw); (try go_split_ands); go_simp; (try with_reducible rfl)
            simp only [List.getElem_toArray, List.getElem_cons_succ, List.getElem_cons_zero, Act.put, List.setIfInBounds_toArray, List.set_cons_zero, List.set_cons_succ]
            refine wpAnyH_ready (rs := [10]) (by kernel_rfl) (by simp) ?_
            refine AllReadyH.cons rfl (fun K hK => ?_) AllReadyH.nil
            go_simp
            refine hK.out _ _ (⟨cell_keep_setP hHeld.1 (Nat.succ_ne_self k), cell_keep_set hHeld.2 (fun e => hne e.symm)⟩) (fun hH1 => ?_)
            clear hK K
            refine wpAnyH_done (by kernel_rfl) ?_ _
            go_wp2
            go_roundg (gk - 1)
            case measure => omega
            case rel => exact ⟨k + 1, by omega, by go_num, HX.out.1, HX.out.2⟩
          · obtain rfl : k = 6 := by omega
            have gO' : wr.heap[g9]? = some (.cells #[iV 1, iV (1 + 2 * pa), iV (1 + 2 * pa + jo), iV (1 + 2 * pa + jo + lo), iV (1 + 2 * pa + jo + lo + lo), iV (1 + 2 * pa + jo + lo + lo + lo), iV (1 + 2 * pa + jo + lo + lo + lo + sl)] 85 (0, 0)) := by rw [hP] at gO; exact gO
            have c1 := cell_of_block gO' 6
            simp at c1
            have q0 : decide (((6 : Nat) : Int) < 6) = false := by decide
            have rO := range_of_block gO'
            have gR2 := (hU.block _ (lt_of_block gR) (fun e => by omega)).trans gR
            have hb9 : Below w.heap.size w wr := below_upd hb8 hU (Nat.le_refl _) (fun k h => by omega)
            have hth : wr.there (w.heap.size + 1) 0 7 := fun j hj => by
              rw [cell_of_block gR2, frozen_of_block gR2, Nat.zero_add]
              exact ⟨by rw [Array.getElem?_eq_getElem (by simpa using hj)]; rfl, rfl⟩
            obtain ⟨L1, hL1⟩ : ∃ L1 : List Value, L1 = [iV 1, iV (1 + 2 * pa), iV (1 + 2 * pa + jo), iV (1 + 2 * pa + jo + lo), iV (1 + 2 * pa + jo + lo + lo), iV (1 + 2 * pa + jo + lo + lo + lo), iV (1 + 2 * pa + jo + lo + lo + lo + sl)] := ⟨_, rfl⟩
            have rO1 : wr.rangeAt g9 0 L1 := by rw [hL1]; exact rO
            have HL1 : Hid (L1 = [iV 1, iV (1 + 2 * pa), iV (1 + 2 * pa + jo), iV (1 + 2 * pa + jo + lo), iV (1 + 2 * pa + jo + lo + lo), iV (1 + 2 * pa + jo + lo + lo + lo), iV (1 + 2 * pa + jo + lo + lo + lo + sl)] ∧ L1.toArray.size = 7 ∧ (Tryz.prog.info? 85).map (·.size) = some L1.toArray.size ∧ L1.toArray.all (·.oneCell') = true ∧ L1.length = 7 ∧ (Tryz.prog.info? 85).map (·.size) = some L1.length) := by
              refine ⟨hL1, by rw [hL1]; rfl, by rw [hL1]; exact info85, all_oneCell_toArray (by intro v hv; rw [hL1] at hv; simp at hv; rcases hv with rfl | rfl | rfl | rfl | rfl | rfl | rfl <;> rfl), by rw [hL1]; rfl, by rw [hL1]; exact info85⟩
            have HF := Lib.hid (And.intro hb9 hth)
            clear hL1 rO gO gO' gZ gR hb8 hz8 hg9 hU gR2 hb9 hth hP hZ
            by_cases hS : 4096 < 1 + 2 * pa + jo + lo + lo + lo + sl
            · have p1 : decide (1 + 2 * pa + jo + lo + lo + lo + sl > 4096) = true := by simpa using hS
              have HS := Lib.hid hS
              clear hS
              go_wp2_with (first
                | (refine wpList_store_mid rfl _ _ _ rfl (w.heap.size + 1) 0 L0.toArray rfl (by rw [HL0.out.1]; rfl) (by rw [HL0.out.2.1]; exact HF.out.2) HL0.out.2.2.1 HL0.out.2.2.2.1 ?_)
                | fail)
              refine bodyPost_ret (results_mid2 rfl _ _ (w.heap.size + 1) 0 L0 _ rfl (World.rangeAt_setCells_same _ _ _ _ (by rw [HL0.out.2.2.2.2.1]; exact HF.out.2)) Tryz.underlying85 rfl HL0.out.2.2.2.2.2) rfl ⟨[0, 0, 0, 0, 0, 0, 0], false, by rw [HL0.out.1]; rfl, rfl, ⟨nd, HND.out, .inr ⟨rfl, fun hx => by have h1 := HS.out; have h2 := hx.2; omega⟩⟩, below_upd HF.out.1 (upd_row _ (w.heap.size + 1) 0 _) (Nat.le_refl _) (fun k h => by omega)⟩
            · have p1 : decide (1 + 2 * pa + jo + lo + lo + lo + sl > 4096) = false := by simp; omega
              have HS := Lib.hid hS
              clear hS
              go_wp2_with (first
                | (refine wpList_load_mid rfl _ _ rfl _ _ rfl L1 _ rO1 Tryz.underlying85 rfl HL1.out.2.2.2.2.2 ?_)
                | (refine wpList_store_mid rfl _ _ _ rfl (w.heap.size + 1) 0 L1.toArray rfl rfl (by rw [HL1.out.2.1]; exact HF.out.2) HL1.out.2.2.1 HL1.out.2.2.2.1 ?_)
                | fail)
              refine bodyPost_ret (results_mid2 rfl _ _ (w.heap.size + 1) 0 L1 _ rfl (World.rangeAt_setCells_same _ _ _ _ (by rw [HL1.out.2.2.2.2.1]; exact HF.out.2)) Tryz.underlying85 rfl HL1.out.2.2.2.2.2) rfl ⟨layI sl jo pa lo, true, by rw [HL1.out.1]; rfl, rfl, ⟨nd, HND.out, .inl ⟨rfl, HPP.out, by have h1 := HS.out; omega, rfl⟩⟩, below_upd HF.out.1 (upd_row _ (w.heap.size + 1) 0 _) (Nat.le_refl _) (fun k h => by omega)⟩
end Go.Proofs.YtnadilfobmgebaaGreatDoor
