/- Which purges were begun and are not over: those without a certificate and without a failure: for every three numbers. -/
import Derived.Test.YtnadilfobmgebaaGreatDoorG41
import Derived.Test.YtnadilfobmgebaaGreatDoorG30
import Derived.Test.YtnadilfobmgebaaGreatDoorG05
import Derived.Deep.LoopGhost
import Derived.Deep.CutRange
namespace Go.Proofs.YtnadilfobmgebaaGreatDoor.logsWaits
open Go Go.RowKit Go.ChangeShapes Go.WideShapes Go.ChangeAt Go.Proofs.YtnadilfobmgebaaGreatDoor
def bit (A j : Nat) : Bool := A / 2 ^ j % 2 == 1
def wl (A B C i : Nat) : List Nat := (List.range i).filter fun j => bit A j && (!bit B j && !bit C j)
def wcl (l : List Nat) : List (List Value) := l.map fun (j : Nat) => intC j j ((j % 9 : Nat) : Int) 1
theorem wl_succ (A B C i : Nat) : wl A B C (i + 1) = if (bit A i && (!bit B i && !bit C i)) = true then wl A B C i ++ [i] else wl A B C i := by
  unfold wl
  rw [List.range_succ, List.filter_append]
  by_cases h : (bit A i && (!bit B i && !bit C i)) = true
  · rw [if_pos h]; simp [h]
  · rw [if_neg h]; simp [h]
theorem wl_all (A B C : Nat) : wl A B C 12 = (List.range 12).filter fun j => upto A 12 j && (!upto B 12 j && !upto C 12 j) := by
  refine List.filter_congr fun j hj => ?_
  have := List.mem_range.1 hj
  simp [bit, upto, this]
theorem div_succ (A i : Nat) : A / 2 ^ (i + 1) = A / 2 ^ i / 2 := by rw [Nat.pow_succ, Nat.div_div_eq_div_mul]
set_option maxRecDepth 100000 in
set_option maxHeartbeats 4000000 in
theorem walk (a b c : Int) (h1 : InR a) (h2 : InR b) (h3 : InR c) (w : World) (nib : Nib w) (tur : Tur w) : Calls Tryz.prog 6 #[.agg #[.int .i64 a, .int .i64 b, .int .i64 c]] w fun e w' => e = .returned (.bool true) ∧ Below w.heap.size w w' := by
  obtain ⟨w1, hw1⟩ : ∃ w1, w1 = w.alloc (.cells #[.int .i64 a, .int .i64 b, .int .i64 c] 76) := ⟨_, rfl⟩
  have hg1 : w1.heap[w.heap.size]? = some (.cells #[.int .i64 a, .int .i64 b, .int .i64 c] 76 (0, 0)) := by rw [hw1]; exact heap_alloc_last w _ rfl
  have hb1 : Below w.heap.size w w1 := by rw [hw1]; exact (Below.refl _ w).alloc (Nat.le_refl _) _
  have HO := Lib.hid (opened_ok 12 (by omega) (by omega) w1 (nib.below hb1) (tur.below hb1))
  have HT := Lib.hid (And.intro nib (And.intro tur (And.intro hg1 hb1)))
  have HAW := Lib.hid (awake17 w1 (nib.below hb1) (tur.below hb1))
  have HW1 := Lib.hid hw1
  unfold InR at h1 h2 h3
  clear nib tur hg1 hb1 hw1
  by_cases hr : 0 ≤ a ∧ 0 ≤ b ∧ 0 ≤ c
  · obtain ⟨A, rfl⟩ : ∃ A : Nat, a = A := ⟨a.toNat, by omega⟩
    obtain ⟨B, rfl⟩ : ∃ B : Nat, b = B := ⟨b.toNat, by omega⟩
    obtain ⟨C, rfl⟩ : ∃ C : Nat, c = C := ⟨c.toNat, by omega⟩
    have HR : Hid (A < 9223372036854775808 ∧ B < 9223372036854775808 ∧ C < 9223372036854775808) := ⟨by omega, by omega, by omega⟩
    clear hr h1 h2 h3 HAW
    go_enter Tryz.func6, Tryz.ntmps6
    go_wp2_with fail
    rw [← HW1.out]
    refine HO.out.mono ?_
    rintro e w2 ⟨li, lc, lf, d, S, rfl, hL, hS, hb2⟩
    obtain ⟨w3, hw3⟩ : ∃ w3, w3 = w2.alloc (.cells #[ptr li, ptr lc, ptr lf] 28) := ⟨_, rfl⟩
    have hg3 : w3.heap[w2.heap.size]? = some (.cells #[ptr li, ptr lc, ptr lf] 28 (0, 0)) := by rw [hw3]; exact heap_alloc_last w2 _ rfl
    have hb3 : Below w2.heap.size w2 w3 := by rw [hw3]; exact (Below.refl _ w2).alloc (Nat.le_refl _) _
    have hL3 : L17 (fun j => S j ∧ j ≠ w2.heap.size) w3 li lc lf d 12 (devL 12) [] [] := by rw [hw3]; exact hL.box _
    obtain ⟨-, -, hg1, hb1⟩ := HT.out
    have hB23 : Below w1.heap.size w1 w3 := hb2.trans (hb3.mono hb2.size)
    have hgt := (hB23.block _ (lt_of_block hg1)).trans hg1
    have t0 : w3.cell? ⟨w.heap.size, 0, none⟩ = some (.int .i64 (A : Int)) := cell_of_block hgt 0
    have t1 : w3.cell? ⟨w.heap.size, 1, none⟩ = some (.int .i64 (B : Int)) := cell_of_block hgt 1
    have t2 : w3.cell? ⟨w.heap.size, 2, none⟩ = some (.int .i64 (C : Int)) := cell_of_block hgt 2
    have hB3 : Below w.heap.size w w3 := hb1.trans (hB23.mono hb1.size)
    have hS3 : ∀ j, (S j ∧ j ≠ w2.heap.size) → w.heap.size ≤ j := fun j hj => by have := hS j hj.1; have := hb1.size; omega
    have H3 := Lib.hid (And.intro hL3 (And.intro hB3 (And.intro hS3 hg3)))
    have HZ : Hid (w.heap.size ≤ w2.heap.size ∧ w2.heap.size < w3.heap.size ∧ li < w3.heap.size ∧ lc < w3.heap.size ∧ lf < w3.heap.size ∧ 0 < w3.heap.size) := ⟨by have h1 := hb1.size; have h2 := hb2.size; exact Nat.le_trans h1 h2, lt_of_block hg3, hL3.i.lt, hL3.c.lt, hL3.f.lt, hL3.nib.lt⟩
    obtain ⟨q, hq⟩ : ∃ q, q = w2.heap.size := ⟨_, rfl⟩
    have HQ := Lib.hid hq
    have HW3 := Lib.hid hw3
    rw [hw3] at t0 t1 t2
    clear hL hS hb2 hg3 hb3 hL3 hg1 hb1 hB23 hgt hB3 hS3 hw3 HO
    go_wp2
    rw [← HW3.out]
    rw [← hq] at H3 HZ ⊢
    clear hq t0 t1 t2
    go_loopg [5, 6, 7, 8, 9] 12 (fun g s5 s6 s7 s8 s9 wr => ∃ (i : Nat) (F : List Bk) (S' : Nat → Prop), i + g = 12 ∧ s9 = .int .i64 i ∧ s5 = .int .i64 ((A / 2 ^ i : Nat) : Int) ∧ s6 = .int .i64 ((B / 2 ^ i : Nat) : Int) ∧ s7 = .int .i64 ((C / 2 ^ i : Nat) : Int) ∧
      L17 S' wr li lc lf d 12 F [] [] ∧ W12 F (upto A i) (upto B i) (upto C i) ∧ Sl wr 39 4 s8 (wl A B C i).length (wcl (wl A B C i)).flatten ∧ (∀ x, s8.ownBlock = some x → ¬ S' x ∧ w3.heap.size ≤ x) ∧ (∀ j, S' j → w.heap.size ≤ j ∧ j ≠ q) ∧
      wr.heap[q]? = some (.cells #[ptr li, ptr lc, ptr lf] 28 (0, 0)) ∧ Below w.heap.size w wr ∧ w3.heap.size ≤ wr.heap.size)
    case atStart =>
      obtain ⟨hL3, hB3, hS3, hg3⟩ := H3.out
      refine ⟨0, _, _, rfl, rfl, by simp, by simp, by simp, hL3, devL_W12.congr (upto_zero A) (upto_zero B) (upto_zero C), Sl.nil _ _ _, (fun x hx => by cases hx), fun j hj => ⟨hS3 j hj, hj.2⟩, hg3, hB3, Nat.le_refl _⟩
    case round =>
      obtain ⟨i, F, S', hgi, rfl, rfl, rfl, rfl, hL, hW, hsl, hown, hSb, hgq, hbr, h39⟩ := hrel
      by_cases hlt : i < 12
      · obtain ⟨x, hx⟩ : ∃ x, x = A / 2 ^ i := ⟨_, rfl⟩
        obtain ⟨y, hy⟩ : ∃ y, y = B / 2 ^ i := ⟨_, rfl⟩
        obtain ⟨z, hz⟩ : ∃ z, z = C / 2 ^ i := ⟨_, rfl⟩
        have hxl : x < 9223372036854775808 := by rw [hx]; exact Nat.lt_of_le_of_lt (Nat.div_le_self _ _) HR.out.1
        have hyl : y < 9223372036854775808 := by rw [hy]; exact Nat.lt_of_le_of_lt (Nat.div_le_self _ _) HR.out.2.1
        have hzl : z < 9223372036854775808 := by rw [hz]; exact Nat.lt_of_le_of_lt (Nat.div_le_self _ _) HR.out.2.2
        rw [← hx, ← hy, ← hz]
        have HX := Lib.hid (And.intro hx (And.intro hy hz))
        have HI := Lib.hid (And.intro hL (And.intro hW (And.intro hsl (And.intro hown (And.intro hSb (And.intro hgq (And.intro hbr h39)))))))
        clear hx hy hz hL hW hsl hown hSb hgq hbr h39
        obtain ⟨hL, hW, hsl, hown, hSb, hgq, hbr, -⟩ := HI.out
        obtain ⟨W0, hW0⟩ : ∃ W0, W0 = wr.alloc (.cells #[.int .i64 ((i : Int) % 9), .int .i64 1] 37) := ⟨_, rfl⟩
        obtain ⟨S1, hS1⟩ : ∃ S1 : Nat → Prop, S1 = fun j => S' j ∧ j ≠ wr.heap.size := ⟨_, rfl⟩
        have hL1 : L17 S1 W0 li lc lf d 12 F [] [] := by rw [hW0, hS1]; exact hL.box _
        have hu0 : Upd (fun _ => False) wr W0 := by rw [hW0]; exact (Upd.refl _ wr).alloc _
        have hgs : W0.heap[wr.heap.size]? = some (.cells #[.int .i64 ((i : Int) % 9), .int .i64 1] 37 (0, 0)) := by rw [hW0]; exact heap_alloc_last wr _ rfl
        have hgq0 := hu0.blockv hgq
        have nS1 : ¬ S1 wr.heap.size := fun h => by rw [hS1] at h; exact h.2 rfl
        have nSq : ¬ S1 q := fun h => by rw [hS1] at h; exact (hSb q h.1).2 rfl
        have hS1S : ∀ j, S1 j → S' j := fun j h => by rw [hS1] at h; exact h.1
        have hrx : (upto A i i = false) ∧ (upto B i i = false) ∧ (upto C i i = false) := by simp [upto]
        have HL := Lib.hid (And.intro hL1 (And.intro hW (And.intro hu0 (And.intro hgs (And.intro hgq0 (And.intro nS1 (And.intro nSq (And.intro hS1S hrx))))))))
        have HW0 := Lib.hid hW0
        have hzq := lt_of_block hgq
        clear hL hW hsl hown hSb hgq hbr hL1 hu0 hgs hgq0 nS1 nSq hS1S hrx hW0 hS1
        have hr9 : Hid ((i : Int) % 9 = ((i % 9 : Nat) : Int)) := by show _ = _; omega
        have ht9 : Hid ((i : Int).tmod 9 = ((i % 9 : Nat) : Int)) := by show _ = _; rw [Int.tmod_eq_emod_of_nonneg (by omega)]; omega
        go_upto_if 52 with fail
        rw [← HW0.out]
        go_cut [11] from 43 to 113 (fun s11 wx => s11 = .int .i64 0 ∧ ∃ F', L17 S1 wx li lc lf d 12 F' [] [] ∧ W12 F' (upto A (i + 1)) (upto B i) (upto C i) ∧ Upd S1 W0 wx)
        case first =>
          rcases Nat.mod_two_eq_zero_or_one x with hb | hb
          · have hbx : ((x : Int) % 2 == 1) = false := by simp; omega
            have hne : Hid (A / 2 ^ i % 2 ≠ 1) := by show _ ≠ _; rw [← HX.out.1]; omega
            clear hb
            go_wp2_with fail
            go_meet
            case rel => exact ⟨rfl, F, HL.out.1, HL.out.2.1.congr (upto_no hne.out) (fun _ => rfl) (fun _ => rfl), Upd.refl _ _⟩
          · have hbx : ((x : Int) % 2 == 1) = true := by simp; omega
            have hne : Hid (A / 2 ^ i % 2 = 1) := by show _ = _; rw [← HX.out.1]; omega
            clear hb
            go_upto_region 18 with fail
            have hud : Upd (fun _ => False) W0 W0.drew := (Upd.refl _ W0).drew
            have c0 : W0.cell? ⟨q, 0, none⟩ = some (ptr li) := cell_of_block HL.out.2.2.2.2.1 0
            have HD := Lib.hid hud
            clear hud
            refine wp_region_held_drew (S := fun W => W.cell? ⟨q, 0, none⟩ = some (ptr li)) (by kernel_rfl) (by rw [World.cell?_drew]; exact c0) (fun hHeld => ?_)
            refine wpAnyH_take (i := 0) (v := ?_) rfl (by kernel_rfl) (by kernel_rfl) (by kernel_rfl) (fun _ _ _ h => h) (Or.inl ⟨by rfl, ?_⟩) hHeld ?_
            rotate_left
            · intro W hSw; (try dsimp only at hSw); (try go_split_ands); go_simp; (try with_reducible rfl)
            simp only [List.getElem_toArray, List.getElem_cons_zero, Act.put, List.setIfInBounds_toArray, List.set_cons_zero, List.set_cons_succ]
            refine wpAnyH_take (i := 1) (v := ?_) rfl (by kernel_rfl) (by kernel_rfl) (by kernel_rfl) (fun _ _ _ h => h) (Or.inl ⟨by rfl, ?_⟩) hHeld ?_
            rotate_left
            · intro W hSw; (try dsimp only at hSw); (try go_split_ands); go_simp; (try with_reducible rfl)
            simp only [List.getElem_toArray, List.getElem_cons_succ, List.getElem_cons_zero, Act.put, List.setIfInBounds_toArray, List.set_cons_zero, List.set_cons_succ]
            refine wpAnyH_take (i := 2) (v := ?_) rfl (by kernel_rfl) (by kernel_rfl) (by kernel_rfl) (fun _ _ _ h => h) (Or.inl ⟨by rfl, ?_⟩) hHeld ?_
            rotate_left
            · intro W hSw; (try dsimp only at hSw); (try go_split_ands); go_simp; (try with_reducible rfl)
            simp only [List.getElem_toArray, List.getElem_cons_succ, List.getElem_cons_zero, Act.put, List.setIfInBounds_toArray, List.set_cons_zero, List.set_cons_succ]
            refine wpAnyH_take (i := 3) (v := ?_) rfl (by kernel_rfl) (by kernel_rfl) (by kernel_rfl) (fun _ _ _ h => h) (Or.inl ⟨by rfl, ?_⟩) hHeld ?_
            rotate_left
            · intro W hSw; (try dsimp only at hSw); (try go_split_ands); go_simp; (try with_reducible rfl)
            simp only [List.getElem_toArray, List.getElem_cons_succ, List.getElem_cons_zero, Act.put, List.setIfInBounds_toArray, List.set_cons_zero, List.set_cons_succ]
            refine wpAnyH_take (i := 4) (v := ?_) rfl (by kernel_rfl) (by kernel_rfl) (by kernel_rfl) (fun _ _ _ h => h) (Or.inl ⟨by rfl, ?_⟩) hHeld ?_
            rotate_left
            · intro W hSw; (try dsimp only at hSw); (try go_split_ands); go_simp; (try with_reducible rfl)
            simp only [List.getElem_toArray, List.getElem_cons_succ, List.getElem_cons_zero, Act.put, List.setIfInBounds_toArray, List.set_cons_zero, List.set_cons_succ]
            refine wpAnyH_ready (rs := [5]) (by kernel_rfl) (by simp) ?_
            refine AllReadyH.cons rfl (fun K hK => ?_) AllReadyH.nil
            go_simp
            refine (thing_ok (i : Int) ((i : Int).tmod 9) _).mono ?_
            rintro e w5 ⟨rfl, hu5⟩
            have H5 := Lib.hid (And.intro (HL.out.1.new (HD.out.trans hu5)) (HD.out.trans hu5))
            clear hu5
            refine hK.out _ _ (cell_of_block (H5.out.2.blockv HL.out.2.2.2.2.1) 0) (fun hH1 => ?_)
            clear hK K
            refine wpAnyH_ready (rs := [6]) (by kernel_rfl) (by simp) ?_
            refine AllReadyH.cons rfl (fun K hK => ?_) AllReadyH.nil
            go_simp
            refine (put12I H5.out.1 HL.out.2.1 hlt HL.out.2.2.2.2.2.2.2.2.1 (upto_yes hne.out) ((i : Int).tmod 9) ht9.out).mono ?_
            rintro e w6 ⟨rfl, F6, hL6, hW6, hu6⟩
            have H6 := Lib.hid (And.intro hL6 (And.intro hW6 ((H5.out.2.mono (fun _ _ h => h.elim)).trans hu6)))
            have hgq6 := (hu6.block _ (Nat.lt_of_lt_of_le (lt_of_block HL.out.2.2.2.2.1) H5.out.2.size) HL.out.2.2.2.2.2.2.1).trans (H5.out.2.blockv HL.out.2.2.2.2.1)
            clear hL6 hW6 hu6
            refine hK.out _ _ (cell_of_block hgq6 0) (fun hH2 => ?_)
            clear hK K
            refine wpAnyH_ready (rs := [7]) (by kernel_rfl) (by simp) ?_
            refine AllReadyH.cons rfl (fun K hK => ?_) AllReadyH.nil
            go_simp
            refine hK.out _ _ (hH2) (fun hH3 => ?_)
            clear hK K
            refine wpAnyH_done (by kernel_rfl) ?_ _
            clear hHeld hH1 hH2 hgq6
            go_wp2_with fail
            go_meet
            case rel => exact ⟨rfl, F6, H6.out.1, H6.out.2.1, H6.out.2.2⟩
        case rest =>
          obtain ⟨rfl, F1, hL1, hW1, hU1⟩ := hcut
          have HL1 := Lib.hid (And.intro hL1 (And.intro hW1 hU1))
          have hgq1 := (hU1.block _ (lt_of_block HL.out.2.2.2.2.1) HL.out.2.2.2.2.2.2.1).trans HL.out.2.2.2.2.1
          have hgs1 := (hU1.block _ (lt_of_block HL.out.2.2.2.1) HL.out.2.2.2.2.2.1).trans HL.out.2.2.2.1
          have c1 : wc.cell? ⟨q, 1, none⟩ = some (ptr lc) := cell_of_block hgq1 1
          have d0 : wc.cell? ⟨wr.heap.size, 0, none⟩ = some (.int .i64 ((i : Int) % 9)) := cell_of_block hgs1 0
          have d1 : wc.cell? ⟨wr.heap.size, 1, none⟩ = some (.int .i64 1) := cell_of_block hgs1 1
          have HG1 := Lib.hid (And.intro hgq1 hgs1)
          clear hL1 hW1 hU1 hgq1 hgs1
          go_upto_if 62 with fail
          go_cut [12] from 43 to 113 (fun s12 wx => s12 = .int .i64 0 ∧ ∃ F', L17 S1 wx li lc lf d 12 F' [] [] ∧ W12 F' (upto A (i + 1)) (upto B (i + 1)) (upto C i) ∧ Upd S1 W0 wx)
          case first =>
            rcases Nat.mod_two_eq_zero_or_one y with hb | hb
            · have hby : ((y : Int) % 2 == 1) = false := by simp; omega
              have hne : Hid (B / 2 ^ i % 2 ≠ 1) := by show _ ≠ _; rw [← HX.out.2.1]; omega
              clear hb
              go_wp2_with fail
              go_meet
              case rel => exact ⟨rfl, F1, HL1.out.1, HL1.out.2.1.congr (fun _ => rfl) (upto_no hne.out) (fun _ => rfl), HL1.out.2.2⟩
            · have hby : ((y : Int) % 2 == 1) = true := by simp; omega
              have hne : Hid (B / 2 ^ i % 2 = 1) := by show _ = _; rw [← HX.out.2.1]; omega
              clear hb
              go_wp2_with fail
              refine (put12C HL1.out.1 HL1.out.2.1 hlt HL.out.2.2.2.2.2.2.2.2.2.1 (upto_yes hne.out) ((i : Int) % 9) hr9.out).mono ?_
              rintro e w6 ⟨rfl, F6, hL6, hW6, hu6⟩
              have H6 := Lib.hid (And.intro hL6 (And.intro hW6 (HL1.out.2.2.trans hu6)))
              clear hL6 hW6 hu6
              go_wp2_with fail
              go_meet
              case rel => exact ⟨rfl, F6, H6.out.1, H6.out.2.1, H6.out.2.2⟩
          case rest =>
            obtain ⟨rfl, F2, hL2, hW2, hU2⟩ := hcut
            have HL2 := Lib.hid (And.intro hL2 (And.intro hW2 hU2))
            have hgq1 := (hU2.block _ (lt_of_block HL.out.2.2.2.2.1) HL.out.2.2.2.2.2.2.1).trans HL.out.2.2.2.2.1
            have hgs1 := (hU2.block _ (lt_of_block HL.out.2.2.2.1) HL.out.2.2.2.2.2.1).trans HL.out.2.2.2.1
            clear c1 d0 d1
            have c2 : wc.cell? ⟨q, 2, none⟩ = some (ptr lf) := cell_of_block hgq1 2
            have d0 : wc.cell? ⟨wr.heap.size, 0, none⟩ = some (.int .i64 ((i : Int) % 9)) := cell_of_block hgs1 0
            have d1 : wc.cell? ⟨wr.heap.size, 1, none⟩ = some (.int .i64 1) := cell_of_block hgs1 1
            have HG2 := Lib.hid (hU2.block _ (lt_of_block HL.out.2.2.2.2.1) HL.out.2.2.2.2.2.2.1)
            clear hL2 hW2 hU2 hgq1 hgs1
            go_upto_if 71 with fail
            go_cut [13] from 43 to 113 (fun s13 wx => s13 = .int .i64 0 ∧ ∃ F', L17 S1 wx li lc lf d 12 F' [] [] ∧ W12 F' (upto A (i + 1)) (upto B (i + 1)) (upto C (i + 1)) ∧ Upd S1 W0 wx)
            case first =>
              rcases Nat.mod_two_eq_zero_or_one z with hb | hb
              · have hbz : ((z : Int) % 2 == 1) = false := by simp; omega
                have hne : Hid (C / 2 ^ i % 2 ≠ 1) := by show _ ≠ _; rw [← HX.out.2.2]; omega
                clear hb
                go_wp2_with fail
                go_meet
                case rel => exact ⟨rfl, F2, HL2.out.1, HL2.out.2.1.congr (fun _ => rfl) (fun _ => rfl) (upto_no hne.out), HL2.out.2.2⟩
              · have hbz : ((z : Int) % 2 == 1) = true := by simp; omega
                have hne : Hid (C / 2 ^ i % 2 = 1) := by show _ = _; rw [← HX.out.2.2]; omega
                clear hb
                go_wp2_with fail
                refine (put12F HL2.out.1 HL2.out.2.1 hlt HL.out.2.2.2.2.2.2.2.2.2.2 (upto_yes hne.out) ((i : Int) % 9) hr9.out).mono ?_
                rintro e w6 ⟨rfl, F6, hL6, hW6, hu6⟩
                have H6 := Lib.hid (And.intro hL6 (And.intro hW6 (HL2.out.2.2.trans hu6)))
                clear hL6 hW6 hu6
                go_wp2_with fail
                go_meet
                case rel => exact ⟨rfl, F6, H6.out.1, H6.out.2.1, H6.out.2.2⟩
            case rest =>
              obtain ⟨rfl, F3, hL3, hW3, hU3⟩ := hcut
              obtain ⟨hL, hW, hsl, hown, hSb, hgq, hbr, H39⟩ := HI.out
              have hu0 := HL.out.2.2.1
              have hB0 : Below w.heap.size w W0 := below_upd hbr hu0 (Nat.le_refl _) (fun _ h => h.elim)
              have hBc : Below w.heap.size w wc := below_upd hB0 hU3 (Nat.le_refl _) (fun j h => (hSb j (HL.out.2.2.2.2.2.2.2.1 j h)).1)
              have hslc := (hsl.keep hu0 (fun _ _ h => h)).keep hU3 (fun g hg h => (hown g hg).1 (HL.out.2.2.2.2.2.2.2.1 g h))
              have hgqc := (hU3.block _ (lt_of_block HL.out.2.2.2.2.1) HL.out.2.2.2.2.2.2.1).trans HL.out.2.2.2.2.1
              have hownc : ∀ g, u8.ownBlock = some g → ¬ S1 g ∧ w3.heap.size ≤ g := fun g hg => ⟨fun h => (hown g hg).1 (HL.out.2.2.2.2.2.2.2.1 g h), (hown g hg).2⟩
              have hS1b : ∀ j, S1 j → w.heap.size ≤ j ∧ j ≠ q := fun j h => hSb j (HL.out.2.2.2.2.2.2.2.1 j h)
              have hdx : ((A / 2 ^ (i + 1) : Nat) : Int) = (x : Int) / 2 ∧ ((B / 2 ^ (i + 1) : Nat) : Int) = (y : Int) / 2 ∧ ((C / 2 ^ (i + 1) : Nat) : Int) = (z : Int) / 2 := by
                rw [div_succ, div_succ, div_succ, ← HX.out.1, ← HX.out.2.1, ← HX.out.2.2]; omega
              have HR3 := Lib.hid (And.intro hL3 (And.intro hW3 (And.intro hBc (And.intro hslc (And.intro hgqc (And.intro hownc (And.intro hS1b hdx)))))))
              have hzw : q < wc.heap.size := lt_of_block hgqc
              have HZW := Lib.hid hzw
              have H9 : Hid (w3.heap.size ≤ wc.heap.size) := Nat.le_trans H39 (Nat.le_trans hu0.size hU3.size)
              clear hL hW hsl hown hSb hgq hbr H39 hu0 hB0 hBc hslc hgqc hownc hS1b hdx hL3 hW3 hU3 c2 d0 d1 hzw hzq
              have hbits : (((x : Int) % 2 == 1) = true ∧ ((y : Int) % 2 == 0) = true ∧ ((z : Int) % 2 == 0) = true ∧ Hid ((bit A i && (!bit B i && !bit C i)) = true)) ∨
                  (((x : Int) % 2 == 1) = false ∧ Hid ((bit A i && (!bit B i && !bit C i)) = false)) ∨ (((x : Int) % 2 == 1) = true ∧ ((y : Int) % 2 == 0) = false ∧ Hid ((bit A i && (!bit B i && !bit C i)) = false)) ∨
                  (((x : Int) % 2 == 1) = true ∧ ((y : Int) % 2 == 0) = true ∧ ((z : Int) % 2 == 0) = false ∧ Hid ((bit A i && (!bit B i && !bit C i)) = false)) := by
                have ea : bit A i = (x % 2 == 1) := by unfold bit; rw [← HX.out.1]
                have eb : bit B i = (y % 2 == 1) := by unfold bit; rw [← HX.out.2.1]
                have ec : bit C i = (z % 2 == 1) := by unfold bit; rw [← HX.out.2.2]
                rcases Nat.mod_two_eq_zero_or_one x with hx | hx
                · exact .inr (.inl ⟨by simp; omega, by show _ = _; rw [ea, hx]; rfl⟩)
                · rcases Nat.mod_two_eq_zero_or_one y with hy | hy
                  · rcases Nat.mod_two_eq_zero_or_one z with hz | hz
                    · exact .inl ⟨by simp; omega, by simp; omega, by simp; omega, by show _ = _; rw [ea, eb, ec, hx, hy, hz]; rfl⟩
                    · exact .inr (.inr (.inr ⟨by simp; omega, by simp; omega, by simp; omega, by show _ = _; rw [ea, eb, ec, hx, hy, hz]; rfl⟩))
                  · exact .inr (.inr (.inl ⟨by simp; omega, by simp; omega, by show _ = _; rw [ea, eb, hx, hy]; rfl⟩))
              rcases hbits with ⟨q1, q2, q3, HBt⟩ | ⟨q1, HBt⟩ | ⟨q1, q2, HBt⟩ | ⟨q1, q2, q3, HBt⟩
              case' inl =>
                obtain ⟨i0, z0, hi0, hz0, hzs0, hsz0, hby0⟩ := infoRowI
                have HI0 := Lib.hid (And.intro hi0 (And.intro hz0 (And.intro hzs0 (And.intro hsz0 hby0))))
                have hLl : (wl A B C i).length ≤ 12 := by
                  have := List.length_filter_le (fun j => bit A j && (!bit B j && !bit C j)) (List.range i)
                  rw [List.length_range] at this
                  unfold wl; omega
                have HLl := Lib.hid hLl
                clear hi0 hz0 hzs0 hsz0 hby0 hLl
                go_wp2_with fail
                refine (thing_ok (i : Int) ((i : Int) % 9) _).mono ?_
                rintro e w7 ⟨rfl, hu7⟩
                have hs7 := Lib.hid (HR3.out.2.2.2.1.keep hu7 (fun _ _ h => h))
                have H7 := Lib.hid hu7
                clear hu7
                go_wp2_with (first
                  | (refine wpList_row rfl 77 39 _ rfl 4 (by decide) Tryz.underlying77 ⟨i0, z0, HI0.out.1, HI0.out.2.1, HI0.out.2.2.1, HI0.out.2.2.2.1⟩ (by decide) (intC i i ((i : Int) % 9) 1) rfl rfl ?_)
                  | (at_builtin; refine wpList_append_one rfl _ _ _ rfl i0 z0 32 Tryz.underlying77 HI0.out.1 HI0.out.2.1 HI0.out.2.2.2.1 HI0.out.2.2.2.2 HI0.out.2.2.1 (by decide) rfl hs7.out (intC i i ((i : Int) % 9) 1) (by rfl) rfl (by simp [Value.oneCell']) (by unfold maxLen; have := HLl.out; omega) (by have := HLl.out; omega) ?_; intro v' w11 hs11 hu11 hbf)
                  | fail)
                replace hu11 : Upd (ownS u8) w7 w11 := hu11
                replace hbf : blockFrom w7 u8 v' := hbf
                have HA := Lib.hid (And.intro hs11 (And.intro hu11 hbf))
                clear hs11 hu11 hbf
                go_roundg (gk - 1)
                case rel =>
                  obtain ⟨hs11, hu11, hbf⟩ := HA.out
                  obtain ⟨hL3, hW3, hBc, hslc, hgqc, hownc, hS1b, hdx⟩ := HR3.out
                  have hU : Upd (ownS u8) wc w11 := (H7.out.mono (fun _ _ h => h.elim)).trans hu11
                  have hz7 := H7.out.size
                  refine ⟨i + 1, F3, fun j => S1 j ∧ ¬ (wc.heap.size ≤ j ∧ j < w11.heap.size), by omega, by go_num, by rw [hdx.1], by rw [hdx.2.1], by rw [hdx.2.2], ?_, hW3, ?_, ?_, fun j hj => hS1b j hj.1, ?_, ?_, Nat.le_trans H9.out hU.size⟩
                  · exact hL3.beside2 hU (fun j hj ht => ⟨(hownc j ht).1, by have := (hownc j ht).2; have := HZ.out; omega, by have := (hownc j ht).2; have := HZ.out; omega, by have := (hownc j ht).2; have := HZ.out; omega, by have := (hownc j ht).2; have := HZ.out; omega⟩)
                  · rw [wl_succ, if_pos HBt.out, List.length_append]
                    have e : (wcl (wl A B C i ++ [i])).flatten = (wcl (wl A B C i)).flatten ++ intC i i ((i : Int) % 9) 1 := by
                      rw [hr9.out]
                      simp [wcl]
                    rw [e]; exact hs11
                  · intro g hg
                    rcases hbf with h | ⟨g', h, hle⟩
                    · have := hownc g (by rw [← h]; exact hg)
                      exact ⟨fun hs => this.1 hs.1, this.2⟩
                    · rw [h] at hg; cases hg
                      have := hs11.lt h
                      refine ⟨fun hs => hs.2 ⟨by omega, this⟩, Nat.le_trans H9.out (Nat.le_trans hz7 hle)⟩
                  · refine (hU.block q (lt_of_block hgqc) (fun h => ?_)).trans hgqc
                    have := (hownc q h).2; have := HZ.out; omega
                  · exact below_upd hBc hU (Nat.le_refl _) (fun j hj => by have := (hownc j hj).2; have := HZ.out; omega)
                case measure => omega
              all_goals
                go_wp2_with fail
                go_roundg (gk - 1)
                case rel =>
                  obtain ⟨hL3, hW3, hBc, hslc, hgqc, hownc, hS1b, hdx⟩ := HR3.out
                  refine ⟨i + 1, F3, S1, by omega, by go_num, by rw [hdx.1], by rw [hdx.2.1], by rw [hdx.2.2], hL3, hW3, ?_, hownc, hS1b, hgqc, hBc, H9.out⟩
                  rw [wl_succ, if_neg (by rw [HBt.out]; simp)]
                  exact hslc
                case measure => omega
      · obtain rfl : i = 12 := by omega
        have hq1 : waitL 12 F [] = wl A B C 12 := by rw [waitL12 hW, wl_all]
        have hcells : waitCells F [] (wl A B C 12) = wcl (wl A B C 12) := cells12 hW (fun j hj => by
          rw [wl_all] at hj
          obtain ⟨h1, h2⟩ := List.mem_filter.1 hj
          exact ⟨List.mem_range.1 h1, by simpa using (by simpa using h2 : _ ∧ _).1⟩)
        have HWt := Lib.hid (waits_ok hL (by omega) (fine12 hW).1 (fine12 hW).2.1 (fine12 hW).2.2)
        have hf12 := (fine12 hW)
        have c0 : wr.cell? ⟨q, 0, none⟩ = some (ptr li) := cell_of_block hgq 0
        have c1 : wr.cell? ⟨q, 1, none⟩ = some (ptr lc) := cell_of_block hgq 1
        have c2 : wr.cell? ⟨q, 2, none⟩ = some (ptr lf) := cell_of_block hgq 2
        obtain ⟨L, hLd⟩ : ∃ L, L = wl A B C 12 := ⟨_, rfl⟩
        rw [← hLd] at hsl hq1 hcells
        rw [← hq1] at hcells
        have hLl : L.length ≤ 12 := by
          have := List.length_filter_le (fun j => bit A j && (!bit B j && !bit C j)) (List.range 12)
          rw [List.length_range] at this
          rw [hLd]; exact this
        obtain ⟨ao, cap, rfl⟩ := hsl.rd.nil_iff
        have HE := Lib.hid (And.intro hW (And.intro hq1 (And.intro hcells (And.intro hf12 (And.intro hsl (And.intro hown (And.intro hSb (And.intro hgq (And.intro hbr hLl)))))))))
        clear hL hW hq1 hcells hf12 hsl hown hSb hgq hbr hLd hLl
        go_wp2_with fail
        refine HWt.out.mono ?_
        rintro e w5 ⟨v, rfl, S5, hS5, hL5, hsl5, hown5, hu5⟩
        obtain ⟨hW, hq1, hcells, hf12, hsl, hown, hSb, hgq, hbr, hLl⟩ := HE.out
        rw [hcells, hq1] at hsl5
        have hsl' := hsl.keep hu5 (fun g hg h => (hown g hg).1 h)
        have hgq5 := (hu5.block q (lt_of_block hgq) (fun h => (hSb q h).2 rfl)).trans hgq
        have hb5 : Below w.heap.size w w5 := below_upd hbr hu5 (Nat.le_refl _) (fun j h => (hSb j h).1)
        obtain ⟨ao5, cap5, rfl⟩ := hsl5.rd.nil_iff
        have HC5 := Lib.hid (check_ok hL5)
        clear c0 c1 c2
        have c0 : w5.cell? ⟨q, 0, none⟩ = some (ptr li) := cell_of_block hgq5 0
        have c1 : w5.cell? ⟨q, 1, none⟩ = some (ptr lc) := cell_of_block hgq5 1
        have c2 : w5.cell? ⟨q, 2, none⟩ = some (ptr lf) := cell_of_block hgq5 2
        have H5 := Lib.hid (And.intro hS5 (And.intro hsl5 (And.intro hown5 (And.intro hsl' (And.intro hown (And.intro hSb (And.intro hb5 (And.intro hf12 hLl))))))))
        clear hW hq1 hcells hf12 hsl hown hSb hgq hbr hLl hS5 hL5 hsl5 hown5 hu5 hsl' hgq5 hb5 HWt
        go_wp2_with fail
        refine HC5.out.mono ?_
        rintro e w6 ⟨cd, rfl, hcd, hL6, hu6⟩
        obtain ⟨hS5, hsl5, hown5, hsl', hown, hSb, hb5, hf12, hLl⟩ := H5.out
        obtain rfl : cd = 0 := hcd.2 hf12
        have hb6 : Below w.heap.size w w6 := below_upd hb5 hu6 (Nat.le_refl _) (fun j h => (hSb j (hS5 j h)).1)
        have hsl6 := hsl5.keep hu6 (fun g hg h => (hown5 g hg).1 h)
        have hsl6' := hsl'.keep hu6 (fun g hg h => (hown g hg).1 (hS5 g h))
        have H6 := Lib.hid (And.intro hb6 (And.intro hsl6 (And.intro hsl6' hLl)))
        clear hS5 hsl5 hown5 hsl' hown hSb hb5 hf12 hLl hcd hL6 hu6 hb6 hsl6 hsl6' c0 c1 c2 HC5
        go_wp2
        go_loopw [16] (fun s16 wx => ∃ p : Nat, p ≤ L.length ∧ s16 = .int .i64 p ∧ Upd (fun _ => False) w6 wx) (fun s16 _ => L.length - (intOf s16).toNat)
        case atStart => exact ⟨0, Nat.zero_le _, rfl, Upd.refl _ _⟩
        case round =>
          obtain ⟨p, hp, rfl, hux⟩ := hrel
          have hL12 := H6.out.2.2.2
          by_cases hlp : p < L.length
          · have hcl : p < (wcl L).length := by simpa [wcl] using hlp
            have hck : ∀ x ∈ wcl L, x.length = 4 := fun x hx => by
              obtain ⟨j, -, rfl⟩ := List.mem_map.1 hx; rfl
            obtain ⟨b1, o1, k1, he1, r1⟩ := (H6.out.2.1.keep hux (fun _ _ h => h)).rd.thing_at hck (by decide) hcl
            obtain ⟨b2, o2, k2, he2, r2⟩ := (H6.out.2.2.1.keep hux (fun _ _ h => h)).rd.thing_at hck (by decide) hcl
            cases he1
            cases he2
            have hcp : (wcl L)[p] = intC (L[p] : Nat) (L[p] : Nat) ((L[p] % 9 : Nat) : Int) 1 := by simp [wcl]
            rw [hcp] at r1 r2
            generalize ((L[p] : Nat) : Int) = n0 at r1 r2
            generalize ((L[p] % 9 : Nat) : Int) = n2 at r1 r2
            have rne := run_neq_intent
            have HUX := Lib.hid hux
            clear hux hcl hck hcp
            go_upto_region 36 with fail
            refine wp_region_held_drew (S := fun W => W.rangeAt b1 (o1 + p * 4) [.int .i64 n0, .int .i64 n0, .int .i64 n2, .int .i64 1] ∧ W.rangeAt b2 (o2 + p * 4) [.int .i64 n0, .int .i64 n0, .int .i64 n2, .int .i64 1]) (by kernel_rfl) (⟨by rw [World.rangeAt_drew]; exact r1, by rw [World.rangeAt_drew]; exact r2⟩) (fun hHeld => ?_)
            refine wpAnyH_take (i := 0) (v := ?_) rfl (by kernel_rfl) (by kernel_rfl) (by kernel_rfl) (fun _ _ _ h => h) (Or.inl ⟨by rfl, ?_⟩) hHeld ?_
            rotate_left
            · intro W hSw; (try dsimp only at hSw); (try go_split_ands); go_simp; (try with_reducible rfl)
            simp only [List.getElem_toArray, List.getElem_cons_zero, Act.put, List.setIfInBounds_toArray, List.set_cons_zero, List.set_cons_succ]
            refine wpAnyH_take (i := 1) (v := ?_) rfl (by kernel_rfl) (by kernel_rfl) (by kernel_rfl) (fun _ _ _ h => h) (Or.inl ⟨by rfl, ?_⟩) hHeld ?_
            rotate_left
            · intro W hSw; (try dsimp only at hSw); (try go_split_ands); go_simp; (try with_reducible rfl)
            simp only [List.getElem_toArray, List.getElem_cons_succ, List.getElem_cons_zero, Act.put, List.setIfInBounds_toArray, List.set_cons_zero, List.set_cons_succ]
            refine wpAnyH_take (i := 2) (v := ?_) rfl (by kernel_rfl) (by kernel_rfl) (by kernel_rfl) (fun _ _ _ h => h) (Or.inl ⟨by rfl, ?_⟩) hHeld ?_
            rotate_left
            · intro W hSw; (try dsimp only at hSw); (try go_split_ands); go_simp; (try with_reducible rfl)
            simp only [List.getElem_toArray, List.getElem_cons_succ, List.getElem_cons_zero, Act.put, List.setIfInBounds_toArray, List.set_cons_zero, List.set_cons_succ]
            refine' wpAnyH_take (i := 3) rfl (by kernel_rfl) (by kernel_rfl) (by kernel_rfl) (fun _ _ _ h => h) (yieldsIf_load_mid (by rfl) _ _ rfl _ _ rfl _ _ (fun w h => h.1) Tryz.underlying39 rfl infoIn) hHeld _
            simp only [List.getElem_toArray, List.getElem_cons_succ, List.getElem_cons_zero, Act.put, List.setIfInBounds_toArray, List.set_cons_zero, List.set_cons_succ]
            refine wpAnyH_take (i := 4) (v := ?_) rfl (by kernel_rfl) (by kernel_rfl) (by kernel_rfl) (fun _ _ _ h => h) (Or.inl ⟨by rfl, ?_⟩) hHeld ?_
            rotate_left
            · intro W hSw; (try dsimp only at hSw); (try go_split_ands); go_simp; (try with_reducible rfl)
            simp only [List.getElem_toArray, List.getElem_cons_succ, List.getElem_cons_zero, Act.put, List.setIfInBounds_toArray, List.set_cons_zero, List.set_cons_succ]
            refine wpAnyH_take (i := 5) (v := ?_) rfl (by kernel_rfl) (by kernel_rfl) (by kernel_rfl) (fun _ _ _ h => h) (Or.inl ⟨by rfl, ?_⟩) hHeld ?_
            rotate_left
            · intro W hSw; (try dsimp only at hSw); (try go_split_ands); go_simp; (try with_reducible rfl)
            simp only [List.getElem_toArray, List.getElem_cons_succ, List.getElem_cons_zero, Act.put, List.setIfInBounds_toArray, List.set_cons_zero, List.set_cons_succ]
            refine wpAnyH_take (i := 6) (v := ?_) rfl (by kernel_rfl) (by kernel_rfl) (by kernel_rfl) (fun _ _ _ h => h) (Or.inl ⟨by rfl, ?_⟩) hHeld ?_
            rotate_left
            · intro W hSw; (try dsimp only at hSw); (try go_split_ands); go_simp; (try with_reducible rfl)
            simp only [List.getElem_toArray, List.getElem_cons_succ, List.getElem_cons_zero, Act.put, List.setIfInBounds_toArray, List.set_cons_zero, List.set_cons_succ]
            refine' wpAnyH_take (i := 7) rfl (by kernel_rfl) (by kernel_rfl) (by kernel_rfl) (fun _ _ _ h => h) (yieldsIf_load_mid (by rfl) _ _ rfl _ _ rfl _ _ (fun w h => h.2) Tryz.underlying39 rfl infoIn) hHeld _
            simp only [List.getElem_toArray, List.getElem_cons_succ, List.getElem_cons_zero, Act.put, List.setIfInBounds_toArray, List.set_cons_zero, List.set_cons_succ]
            refine wpAnyH_take (i := 8) (v := ?_) rfl (by kernel_rfl) (by kernel_rfl) (by kernel_rfl) (fun _ _ _ h => h) (Or.inl ⟨by rfl, ?_⟩) hHeld ?_
            rotate_left
            · intro W hSw; (try dsimp only at hSw); (try go_split_ands); go_simp; (try with_reducible rfl)
            simp only [List.getElem_toArray, List.getElem_cons_succ, List.getElem_cons_zero, Act.put, List.setIfInBounds_toArray, List.set_cons_zero, List.set_cons_succ]
            refine wpAnyH_done (by kernel_rfl) ?_ _
            clear hHeld rne r1 r2
            go_wp2
            go_roundw
            case rel => exact ⟨p + 1, by omega, by go_num, HUX.out.drew⟩
            case measure => simp [intOf]; omega
          · obtain rfl : p = L.length := by omega
            have hbx : Below w.heap.size w wr := below_upd H6.out.1 hux (Nat.le_refl _) (fun _ h => h.elim)
            have HX9 := Lib.hid hbx
            clear hux hbx
            go_wp2_with fail
            refine (awake17 _ (HT.out.1.below HX9.out) (HT.out.2.1.below HX9.out)).mono ?_
            rintro e w9 ⟨rfl, hb9⟩
            have HB9 := Lib.hid (HX9.out.trans (hb9.mono HX9.out.size))
            clear hb9
            go_wp2
            go_ret
            exact ⟨rfl, HB9.out⟩
  · have hc : a < 0 ∨ (0 ≤ a ∧ b < 0) ∨ (0 ≤ a ∧ 0 ≤ b ∧ c < 0) := by omega
    clear hr HO
    go_enter Tryz.func6, Tryz.ntmps6
    rcases hc with p1 | ⟨p1, p2⟩ | ⟨p1, p2, p3⟩
    all_goals
      go_wp2_with fail
      rw [← HW1.out]
      refine HAW.out.mono ?_
      rintro e w3 ⟨rfl, hb3⟩
      have HB3 := Lib.hid (HT.out.2.2.2.trans (hb3.mono HT.out.2.2.2.size))
      clear hb3
      go_wp2
      go_ret
      exact ⟨rfl, HB3.out⟩
end Go.Proofs.YtnadilfobmgebaaGreatDoor.logsWaits
