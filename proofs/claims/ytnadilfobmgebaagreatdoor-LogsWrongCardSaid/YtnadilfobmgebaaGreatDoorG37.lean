/- Failures: their sectors, which may be. Failures: their numbers, which may be, and the failure of numbers. A thing of the kind Failure, as a sector. -/
import Derived.Test.YtnadilfobmgebaaGreatDoorG11
import Derived.Test.YtnadilfobmgebaaGreatDoorG20
namespace Go.Proofs.YtnadilfobmgebaaGreatDoor
open Go Go.RowKit
def secAt (many : Int) (xs : List Int) (i : Nat) : Bool :=
  if many ≤ (i : Int) then decide (xs.getD i 0 = 0) else decide (0 ≤ xs.getD i 0) && decide (xs.getD i 0 ≤ 1048576) && (decide (i = 0) || decide (xs.getD (i - 1) 0 < xs.getD i 0))
def secB (many : Int) (xs : List Int) : Bool := (List.range xs.length).all (secAt many xs)
theorem secB_no {many : Int} {xs : List Int} {i : Nat} (hi : i < xs.length) (h : secAt many xs i = false) : secB many xs = false := by
  cases hb : secB many xs with
  | false => rfl
  | true =>
    have := List.all_eq_true.1 hb i (List.mem_range.2 hi)
    rw [h] at this; cases this
theorem secB_yes {many : Int} {xs : List Int} (h : ∀ j, j < xs.length → secAt many xs j = true) : secB many xs = true := List.all_eq_true.2 fun j hj => h j (List.mem_range.1 hj)
set_option maxRecDepth 100000 in
theorem sectors_may {w : World} {gl ol cl : Nat} (many : Int) (xs : List Int) (hl : xs.length ≤ 100) (hx : w.rangeAt gl ol (ints xs)) :
    Calls Tryz.prog 205 #[.int .i64 many, .slice (some ⟨gl, ol, none⟩) xs.length cl] w fun e w' => e = .returned (.bool (secB many xs)) ∧ w = w' := by
  obtain ⟨m, hm⟩ : ∃ m, m = xs.length := ⟨_, rfl⟩
  rw [← hm] at hl ⊢
  have HX := Lib.hid (And.intro hx hm)
  clear hx hm
  go_enter Tryz.func205, Tryz.ntmps205
  go_wp2
  go_loop [9] (fun s9 => ∃ i : Nat, i ≤ m ∧ s9 = .int .i64 (i : Int) ∧ ∀ j, j < i → secAt many xs j = true) (fun s9 => m - (intOf s9).toNat)
  case atStart => exact ⟨0, Nat.zero_le _, rfl, fun j hj => by omega⟩
  case round =>
    obtain ⟨i, hi, rfl, hall⟩ := hrel
    have HA := Lib.hid hall
    clear hall
    by_cases hlt : i < m
    · have hlt' : i < xs.length := by rw [← HX.out.2]; exact hlt
      obtain ⟨x, hxi⟩ : ∃ x, x = xs.getD i 0 := ⟨_, rfl⟩
      have cx : w.cell? ⟨gl, ol + i, none⟩ = some (.int .i64 x) := by
        rw [ints_range HX.out.1 (i := i) hlt', hxi]; simp [List.getD_eq_getElem?_getD, hlt']
      have hr : Hid (∀ b, secAt many xs i = b → (b = false → secB many xs = false) ∧ (b = true → ∀ j, j < i + 1 → secAt many xs j = true)) := fun b hb => by
        refine ⟨fun e => secB_no hlt' (hb.trans e), fun e j hj => ?_⟩
        by_cases hji : j = i
        · subst hji; exact hb.trans e
        · exact HA.out j (by omega)
      by_cases hmi : many ≤ (i : Int)
      · have hsec : Hid (secAt many xs i = decide (x = 0)) := by show _ = _; unfold secAt; rw [if_pos hmi, hxi]
        clear hxi
        by_cases h0 : x = 0
        · subst h0
          have hE := Lib.hid ((hr.out _ hsec.out).2 rfl)
          clear hsec hr
          go_wp2
          go_round
          case rel => exact ⟨i + 1, by omega, by go_num, hE.out⟩
          case measure => simp [intOf]; omega
        · have hq : (x == 0) = false := by simpa using h0
          have hq2 : (x != 0) = true := by simpa using h0
          have hE := Lib.hid ((hr.out _ hsec.out).1 (by simpa using h0))
          clear hsec hr h0
          go_wp2
          go_ret
          exact ⟨by rw [hE.out]; rfl, rfl⟩
      · obtain ⟨y, hy⟩ : ∃ y, y = xs.getD (i - 1) 0 := ⟨_, rfl⟩
        have hsec : Hid (secAt many xs i = (decide (0 ≤ x) && decide (x ≤ 1048576) && (decide (i = 0) || decide (y < x)))) := by show _ = _; unfold secAt; rw [if_neg hmi, hxi, hy]
        have cy : i ≠ 0 → w.cell? ⟨gl, ol + (i - 1), none⟩ = some (.int .i64 y) := fun h => by
          rw [ints_range HX.out.1 (i := i - 1) (by omega), hy]; simp [List.getD_eq_getElem?_getD, show i - 1 < xs.length by omega]
        clear hxi hy
        by_cases h1 : x < 0
        · have hE := Lib.hid ((hr.out _ hsec.out).1 (by simp; intro h; omega))
          clear hsec hr cy
          go_wp2
          go_ret
          exact ⟨by rw [hE.out]; rfl, rfl⟩
        · by_cases h2 : 1048576 < x
          · have hE := Lib.hid ((hr.out _ hsec.out).1 (by simp; intro h h3; omega))
            clear hsec hr cy
            go_wp2
            go_ret
            exact ⟨by rw [hE.out]; rfl, rfl⟩
          · by_cases h3 : i = 0
            · subst h3
              rw [Nat.add_zero] at cx
              have hE := Lib.hid ((hr.out _ hsec.out).2 (by simp; omega))
              clear hsec hr cy
              go_wp2
              go_round
              case rel => exact ⟨1, by omega, by go_num, hE.out⟩
              case measure => simp [intOf]; omega
            · have cy := cy h3
              have hi1 : (0 : Int) < (i : Int) := by omega
              have e1 : ((i : Int) - 1) = ((i - 1 : Nat) : Int) := by omega
              have e2 : ((i : Int) - 1).toNat = i - 1 := by omega
              have p1 : (0 : Int) ≤ (i : Int) - 1 := by omega
              by_cases h4 : x ≤ y
              · have hE := Lib.hid ((hr.out _ hsec.out).1 (by simp; intro h h5; omega))
                clear hsec hr h3 e1
                go_wp2
                go_ret
                exact ⟨by rw [hE.out]; rfl, rfl⟩
              · have hE := Lib.hid ((hr.out _ hsec.out).2 (by simp; omega))
                clear hsec hr h3 e1
                go_wp2
                go_round
                case rel => exact ⟨i + 1, by omega, by go_num, hE.out⟩
                case measure => simp [intOf]; omega
    · obtain rfl : i = m := by omega
      have hE := Lib.hid (secB_yes (many := many) (xs := xs) (fun j hj => HA.out j (by rw [HX.out.2]; exact hj)))
      clear hlt
      go_wp2
      go_ret
      exact ⟨by rw [hE.out]; rfl, rfl⟩
def bndF : List (Int × Int) := [(0, 1099511627776), (0, 1099511627776), (0, 4096), (1, 4096), (1, 8)]
def mayF (xs : List Int) : Bool := withinB bndF xs && spanB (xs.getD 2 0) (xs.getD 3 0) && secB (xs.getD 4 0) (xs.drop 5)
theorem infoFz : (Tryz.prog.info? 58).map (·.size) = some 13 := by kernel_rfl
theorem infoS8 : (Tryz.prog.info? 56).map (·.size) = some 8 := by kernel_rfl
theorem ints_oneF (xs : List Int) : ∀ v ∈ ints xs, v.oneCell' = true := by
  intro v hv
  simp only [ints, List.mem_map] at hv
  obtain ⟨x, -, rfl⟩ := hv
  rfl
theorem ints_drop {w : World} {g o k : Nat} {xs : List Int} (hr : w.rangeAt g o (ints xs)) : w.rangeAt g (o + k) (ints (xs.drop k)) := fun j v hv => by
  rw [Nat.add_assoc]
  refine hr _ v ?_
  rw [← hv, ints, ints, List.getElem?_map, List.getElem?_map, List.getElem?_drop]
theorem cellF {w : World} {g o : Nat} {xs : List Int} (hr : w.rangeAt g o (ints xs)) (i : Nat) (hi : i < xs.length) : w.cell? ⟨g, o + i, none⟩ = some (.int .i64 (xs.getD i 0)) := by
  rw [ints_range hr (i := i) hi]; simp [List.getD_eq_getElem?_getD, hi]
set_option maxRecDepth 100000 in
set_option maxHeartbeats 2000000 in
theorem mayF_any {w : World} {gl ol cl gt : Nat} {v : Value} (xs : List Int) (hxl : xs.length = 13) (hcl : 13 ≤ cl) (hcm : cl ≤ maxLen) (hv : w.cell? ⟨gt, 0, none⟩ = some v) (hB : Bnd w v bndF) (hx : w.rangeAt gl ol (ints xs)) :
    Calls Tryz.prog 204 #[.slice (some ⟨gl, ol, none⟩) 13 cl, .pointer (some ⟨gt, 0, none⟩)] w fun e w' => e = .returned (.bool (mayF xs)) ∧ Below w.heap.size w w' := by
  obtain ⟨g, h, cc, rfl, hc, hr⟩ := hB
  obtain ⟨x2, hx2⟩ : ∃ x2, xs.getD 2 0 = x2 := ⟨_, rfl⟩
  obtain ⟨x3, hx3⟩ : ∃ x3, xs.getD 3 0 = x3 := ⟨_, rfl⟩
  obtain ⟨x4, hx4⟩ : ∃ x4, xs.getD 4 0 = x4 := ⟨_, rfl⟩
  have c2 : w.cell? ⟨gl, ol + 2, none⟩ = some (.int .i64 x2) := by rw [← hx2]; exact cellF hx 2 (by omega)
  have c3 : w.cell? ⟨gl, ol + 3, none⟩ = some (.int .i64 x3) := by rw [← hx3]; exact cellF hx 3 (by omega)
  have c4 : w.cell? ⟨gl, ol + 4, none⟩ = some (.int .i64 x4) := by rw [← hx4]; exact cellF hx 4 (by omega)
  have hud : Upd (fun _ => False) w w.drew := (Upd.refl _ _).drew
  have HX := Lib.hid (And.intro (hud.range hx (fun h => h)) (And.intro (hud.cellv hc (fun h => h)) (And.intro (hud.range hr (fun h => h)) (And.intro hxl (And.intro hcl hcm)))))
  have HM : Hid (mayF xs = (withinB bndF xs && spanB x2 x3 && secB x4 (xs.drop 5))) := by show _ = _; rw [mayF, hx2, hx3, hx4]
  have hd8 : Hid ((xs.drop 5).length = 8) := by show _ = _; rw [List.length_drop]; omega
  have b1 : (5 : Int) ≤ (cl : Int) := by omega
  have b2 : (13 : Int) ≤ (cl : Int) := by omega
  have hne : ¬ cl = 5 := by omega
  unfold maxLen at hcm
  clear hx hr hc hud hx2 hx3 hx4 hxl hcm
  obtain ⟨wb, hw⟩ : ∃ wb, withinB bndF xs = wb := ⟨_, rfl⟩
  have HW := Lib.hid hw
  obtain ⟨sb, hs⟩ : ∃ sb, spanB x2 x3 = sb := ⟨_, rfl⟩
  have HS := Lib.hid hs
  obtain ⟨eb, he⟩ : ∃ eb, secB x4 (xs.drop 5) = eb := ⟨_, rfl⟩
  have HE := Lib.hid he
  rw [hw, hs, he] at HM
  clear hw hs he
  cases wb
  · go_enter Tryz.func204, Tryz.ntmps204
    go_wp2
    refine wp_region_held_drew (S := fun W => W.cell? ⟨gt, 0, none⟩ = some (.func (.func 168) #[] #[.pointer (some ⟨g, 0, none⟩)]) ∧ W.cell? ⟨gl, ol + 2, none⟩ = some (.int .i64 x2) ∧ W.cell? ⟨gl, ol + 3, none⟩ = some (.int .i64 x3) ∧ W.cell? ⟨gl, ol + 4, none⟩ = some (.int .i64 x4)) (by kernel_rfl) (by (simp only [World.cell?_drew]); exact ⟨hv, c2, c3, c4⟩) (fun hHeld => ?_)
    refine wpAnyH_take (i := 0) (v := ?_) rfl (by kernel_rfl) (by kernel_rfl) (by kernel_rfl) (fun _ _ _ h => h) (Or.inl ⟨by rfl, ?_⟩) hHeld ?_
    rotate_left
    · intro W hSw; (try dsimp only at hSw); (try go_split_ands); go_simp; (try with_reducible rfl)
    simp only [List.getElem_toArray, List.getElem_cons_zero, Act.put, List.setIfInBounds_toArray, List.set_cons_zero, List.set_cons_succ]
    refine wpAnyH_take (i := 1) (v := ?_) rfl (by kernel_rfl) (by kernel_rfl) (by kernel_rfl) (fun _ _ _ h => h) (Or.inl ⟨by rfl, ?_⟩) hHeld ?_
    rotate_left
    · intro W hSw; (try dsimp only at hSw); (try go_split_ands); go_simp; (try with_reducible rfl)
    simp only [List.getElem_toArray, List.getElem_cons_succ, List.getElem_cons_zero, Act.put, List.setIfInBounds_toArray, List.set_cons_zero, List.set_cons_succ]
    refine wpAnyH_ready (rs := [2]) (by kernel_rfl) (by simp) ?_
    refine AllReadyH.cons rfl (fun K hK => ?_) AllReadyH.nil
    go_simp
    refine (within_any bndF xs HX.out.2.1 HX.out.2.2.1 HX.out.1 HX.out.2.2.2.1 (by show 5 ≤ 13; decide) (by decide)).mono ?_
    rw [HW.out]
    rintro e w' ⟨rfl, hb⟩
    refine hK.out _ _ ((have hU := Upd.of_below (S := fun _ => False) hb; ⟨hU.cellv hHeld.1 (fun h => h), hU.cellv hHeld.2.1 (fun h => h), hU.cellv hHeld.2.2.1 (fun h => h), hU.cellv hHeld.2.2.2 (fun h => h)⟩)) (fun hH1 => ?_)
    clear hK K
    refine wpAnyH_take (i := 3) (v := ?_) rfl (by kernel_rfl) (by kernel_rfl) (by kernel_rfl) (fun _ _ _ h => h) (Or.inl ⟨by rfl, ?_⟩) hH1 ?_
    rotate_left
    · intro W hSw; (try dsimp only at hSw); (try go_split_ands); go_simp; (try with_reducible rfl)
    simp only [List.getElem_toArray, List.getElem_cons_succ, List.getElem_cons_zero, Act.put, List.setIfInBounds_toArray, List.set_cons_zero, List.set_cons_succ]
    refine' wpAnyH_take (i := 4) rfl (by kernel_rfl) (by kernel_rfl) (by kernel_rfl) (fun _ _ _ h => h) (Or.inr ⟨by rfl, rfl⟩) hH1 _
    simp only [List.getElem_toArray, List.getElem_cons_succ, List.getElem_cons_zero, Act.put, List.setIfInBounds_toArray, List.set_cons_zero, List.set_cons_succ]
    refine' wpAnyH_take (i := 5) rfl (by kernel_rfl) (by kernel_rfl) (by kernel_rfl) (fun _ _ _ h => h) (Or.inr ⟨by rfl, rfl⟩) hH1 _
    simp only [List.getElem_toArray, List.getElem_cons_succ, List.getElem_cons_zero, Act.put, List.setIfInBounds_toArray, List.set_cons_zero, List.set_cons_succ]
    refine' wpAnyH_take (i := 6) rfl (by kernel_rfl) (by kernel_rfl) (by kernel_rfl) (fun _ _ _ h => h) (Or.inr ⟨by rfl, rfl⟩) hH1 _
    simp only [List.getElem_toArray, List.getElem_cons_succ, List.getElem_cons_zero, Act.put, List.setIfInBounds_toArray, List.set_cons_zero, List.set_cons_succ]
    refine' wpAnyH_take (i := 7) rfl (by kernel_rfl) (by kernel_rfl) (by kernel_rfl) (fun _ _ _ h => h) (Or.inr ⟨by rfl, rfl⟩) hH1 _
    simp only [List.getElem_toArray, List.getElem_cons_succ, List.getElem_cons_zero, Act.put, List.setIfInBounds_toArray, List.set_cons_zero, List.set_cons_succ]
    refine' wpAnyH_take (i := 8) rfl (by kernel_rfl) (by kernel_rfl) (by kernel_rfl) (fun _ _ _ h => h) (Or.inr ⟨by rfl, rfl⟩) hH1 _
    simp only [List.getElem_toArray, List.getElem_cons_succ, List.getElem_cons_zero, Act.put, List.setIfInBounds_toArray, List.set_cons_zero, List.set_cons_succ]
    refine' wpAnyH_take (i := 9) rfl (by kernel_rfl) (by kernel_rfl) (by kernel_rfl) (fun _ _ _ h => h) (Or.inr ⟨by rfl, rfl⟩) hH1 _
    simp only [List.getElem_toArray, List.getElem_cons_succ, List.getElem_cons_zero, Act.put, List.setIfInBounds_toArray, List.set_cons_zero, List.set_cons_succ]
    refine wpAnyH_ready (rs := [10]) (by kernel_rfl) (by simp) ?_
    refine AllReadyH.cons rfl (fun K hK => ?_) AllReadyH.nil
    go_simp
    refine hK.out _ _ (hH1) (fun hH2 => ?_)
    clear hK K
    refine wpAnyH_take (i := 11) (v := ?_) rfl (by kernel_rfl) (by kernel_rfl) (by kernel_rfl) (fun _ _ _ h => h) (Or.inl ⟨by rfl, ?_⟩) hH2 ?_
    rotate_left
    · intro W hSw; (try dsimp only at hSw); (try go_split_ands); go_simp; (try with_reducible rfl)
    simp only [List.getElem_toArray, List.getElem_cons_succ, List.getElem_cons_zero, Act.put, List.setIfInBounds_toArray, List.set_cons_zero, List.set_cons_succ]
    refine wpAnyH_take (i := 12) (v := ?_) rfl (by kernel_rfl) (by kernel_rfl) (by kernel_rfl) (fun _ _ _ h => h) (Or.inl ⟨by rfl, ?_⟩) hH2 ?_
    rotate_left
    · intro W hSw; (try dsimp only at hSw); (try go_split_ands); go_simp; (try with_reducible rfl)
    simp only [List.getElem_toArray, List.getElem_cons_succ, List.getElem_cons_zero, Act.put, List.setIfInBounds_toArray, List.set_cons_zero, List.set_cons_succ]
    refine' wpAnyH_take (i := 13) rfl (by kernel_rfl) (by kernel_rfl) (by kernel_rfl) (fun _ _ _ h => h) (Or.inr ⟨by rfl, rfl⟩) hH2 _
    simp only [List.getElem_toArray, List.getElem_cons_succ, List.getElem_cons_zero, Act.put, List.setIfInBounds_toArray, List.set_cons_zero, List.set_cons_succ]
    refine' wpAnyH_take (i := 14) rfl (by kernel_rfl) (by kernel_rfl) (by kernel_rfl) (fun _ _ _ h => h) (Or.inr ⟨by rfl, rfl⟩) hH2 _
    simp only [List.getElem_toArray, List.getElem_cons_succ, List.getElem_cons_zero, Act.put, List.setIfInBounds_toArray, List.set_cons_zero, List.set_cons_succ]
    refine' wpAnyH_take (i := 15) rfl (by kernel_rfl) (by kernel_rfl) (by kernel_rfl) (fun _ _ _ h => h) (Or.inr ⟨by rfl, rfl⟩) hH2 _
    simp only [List.getElem_toArray, List.getElem_cons_succ, List.getElem_cons_zero, Act.put, List.setIfInBounds_toArray, List.set_cons_zero, List.set_cons_succ]
    refine' wpAnyH_take (i := 16) rfl (by kernel_rfl) (by kernel_rfl) (by kernel_rfl) (fun _ _ _ h => h) (Or.inr ⟨by rfl, rfl⟩) hH2 _
    simp only [List.getElem_toArray, List.getElem_cons_succ, List.getElem_cons_zero, Act.put, List.setIfInBounds_toArray, List.set_cons_zero, List.set_cons_succ]
    refine' wpAnyH_take (i := 17) rfl (by kernel_rfl) (by kernel_rfl) (by kernel_rfl) (fun _ _ _ h => h) (Or.inr ⟨by rfl, rfl⟩) hH2 _
    simp only [List.getElem_toArray, List.getElem_cons_succ, List.getElem_cons_zero, Act.put, List.setIfInBounds_toArray, List.set_cons_zero, List.set_cons_succ]
    refine wpAnyH_ready (rs := [18]) (by kernel_rfl) (by simp) ?_
    refine AllReadyH.cons rfl (fun K hK => ?_) AllReadyH.nil
    go_simp
    refine hK.out _ _ (hH2) (fun hH3 => ?_)
    clear hK K
    refine wpAnyH_take (i := 19) (v := ?_) rfl (by kernel_rfl) (by kernel_rfl) (by kernel_rfl) (fun _ _ _ h => h) (Or.inl ⟨by rfl, ?_⟩) hH3 ?_
    rotate_left
    · intro W hSw; (try dsimp only at hSw); (try go_split_ands); go_simp; (try with_reducible rfl)
    simp only [List.getElem_toArray, List.getElem_cons_succ, List.getElem_cons_zero, Act.put, List.setIfInBounds_toArray, List.set_cons_zero, List.set_cons_succ]
    refine wpAnyH_ready (rs := [20]) (by kernel_rfl) (by simp) ?_
    refine AllReadyH.cons rfl (fun K hK => ?_) AllReadyH.nil
    go_simp
    refine hK.out _ _ (hH3) (fun hH4 => ?_)
    clear hK K
    refine wpAnyH_done (by kernel_rfl) ?_ _
    have HB2 : Hid (Below w.heap.size w w') := bundrew' hb
    clear hb
    go_wp2
    go_ret
    exact ⟨by rw [HM.out]; rfl, HB2.out⟩
  · cases sb
    · go_enter Tryz.func204, Tryz.ntmps204
      go_wp2
      refine wp_region_held_drew (S := fun W => W.cell? ⟨gt, 0, none⟩ = some (.func (.func 168) #[] #[.pointer (some ⟨g, 0, none⟩)]) ∧ W.cell? ⟨gl, ol + 2, none⟩ = some (.int .i64 x2) ∧ W.cell? ⟨gl, ol + 3, none⟩ = some (.int .i64 x3) ∧ W.cell? ⟨gl, ol + 4, none⟩ = some (.int .i64 x4)) (by kernel_rfl) (by (simp only [World.cell?_drew]); exact ⟨hv, c2, c3, c4⟩) (fun hHeld => ?_)
      refine wpAnyH_take (i := 0) (v := ?_) rfl (by kernel_rfl) (by kernel_rfl) (by kernel_rfl) (fun _ _ _ h => h) (Or.inl ⟨by rfl, ?_⟩) hHeld ?_
      rotate_left
      · intro W hSw; (try dsimp only at hSw); (try go_split_ands); go_simp; (try with_reducible rfl)
      simp only [List.getElem_toArray, List.getElem_cons_zero, Act.put, List.setIfInBounds_toArray, List.set_cons_zero, List.set_cons_succ]
      refine wpAnyH_take (i := 1) (v := ?_) rfl (by kernel_rfl) (by kernel_rfl) (by kernel_rfl) (fun _ _ _ h => h) (Or.inl ⟨by rfl, ?_⟩) hHeld ?_
      rotate_left
      · intro W hSw; (try dsimp only at hSw); (try go_split_ands); go_simp; (try with_reducible rfl)
      simp only [List.getElem_toArray, List.getElem_cons_succ, List.getElem_cons_zero, Act.put, List.setIfInBounds_toArray, List.set_cons_zero, List.set_cons_succ]
      refine wpAnyH_ready (rs := [2]) (by kernel_rfl) (by simp) ?_
      refine AllReadyH.cons rfl (fun K hK => ?_) AllReadyH.nil
      go_simp
      refine (within_any bndF xs HX.out.2.1 HX.out.2.2.1 HX.out.1 HX.out.2.2.2.1 (by show 5 ≤ 13; decide) (by decide)).mono ?_
      rw [HW.out]
      rintro e w' ⟨rfl, hb⟩
      refine hK.out _ _ ((have hU := Upd.of_below (S := fun _ => False) hb; ⟨hU.cellv hHeld.1 (fun h => h), hU.cellv hHeld.2.1 (fun h => h), hU.cellv hHeld.2.2.1 (fun h => h), hU.cellv hHeld.2.2.2 (fun h => h)⟩)) (fun hH1 => ?_)
      clear hK K
      refine wpAnyH_take (i := 3) (v := ?_) rfl (by kernel_rfl) (by kernel_rfl) (by kernel_rfl) (fun _ _ _ h => h) (Or.inl ⟨by rfl, ?_⟩) hH1 ?_
      rotate_left
      · intro W hSw; (try dsimp only at hSw); (try go_split_ands); go_simp; (try with_reducible rfl)
      simp only [List.getElem_toArray, List.getElem_cons_succ, List.getElem_cons_zero, Act.put, List.setIfInBounds_toArray, List.set_cons_zero, List.set_cons_succ]
      refine wpAnyH_take (i := 4) (v := ?_) rfl (by kernel_rfl) (by kernel_rfl) (by kernel_rfl) (fun _ _ _ h => h) (Or.inl ⟨by rfl, ?_⟩) hH1 ?_
      rotate_left
      · intro W hSw; (try dsimp only at hSw); (try go_split_ands); go_simp; (try with_reducible rfl)
      simp only [List.getElem_toArray, List.getElem_cons_succ, List.getElem_cons_zero, Act.put, List.setIfInBounds_toArray, List.set_cons_zero, List.set_cons_succ]
      refine wpAnyH_take (i := 5) (v := ?_) rfl (by kernel_rfl) (by kernel_rfl) (by kernel_rfl) (fun _ _ _ h => h) (Or.inl ⟨by rfl, ?_⟩) hH1 ?_
      rotate_left
      · intro W hSw; (try dsimp only at hSw); (try go_split_ands); go_simp; (try with_reducible rfl)
      simp only [List.getElem_toArray, List.getElem_cons_succ, List.getElem_cons_zero, Act.put, List.setIfInBounds_toArray, List.set_cons_zero, List.set_cons_succ]
      refine wpAnyH_take (i := 6) (v := ?_) rfl (by kernel_rfl) (by kernel_rfl) (by kernel_rfl) (fun _ _ _ h => h) (Or.inl ⟨by rfl, ?_⟩) hH1 ?_
      rotate_left
      · intro W hSw; (try dsimp only at hSw); (try go_split_ands); go_simp; (try with_reducible rfl)
      simp only [List.getElem_toArray, List.getElem_cons_succ, List.getElem_cons_zero, Act.put, List.setIfInBounds_toArray, List.set_cons_zero, List.set_cons_succ]
      refine wpAnyH_take (i := 7) (v := ?_) rfl (by kernel_rfl) (by kernel_rfl) (by kernel_rfl) (fun _ _ _ h => h) (Or.inl ⟨by rfl, ?_⟩) hH1 ?_
      rotate_left
      · intro W hSw; (try dsimp only at hSw); (try go_split_ands); go_simp; (try with_reducible rfl)
      simp only [List.getElem_toArray, List.getElem_cons_succ, List.getElem_cons_zero, Act.put, List.setIfInBounds_toArray, List.set_cons_zero, List.set_cons_succ]
      refine wpAnyH_take (i := 8) (v := ?_) rfl (by kernel_rfl) (by kernel_rfl) (by kernel_rfl) (fun _ _ _ h => h) (Or.inl ⟨by rfl, ?_⟩) hH1 ?_
      rotate_left
      · intro W hSw; (try dsimp only at hSw); (try go_split_ands); go_simp; (try with_reducible rfl)
      simp only [List.getElem_toArray, List.getElem_cons_succ, List.getElem_cons_zero, Act.put, List.setIfInBounds_toArray, List.set_cons_zero, List.set_cons_succ]
      refine wpAnyH_take (i := 9) (v := ?_) rfl (by kernel_rfl) (by kernel_rfl) (by kernel_rfl) (fun _ _ _ h => h) (Or.inl ⟨by rfl, ?_⟩) hH1 ?_
      rotate_left
      · intro W hSw; (try dsimp only at hSw); (try go_split_ands); go_simp; (try with_reducible rfl)
      simp only [List.getElem_toArray, List.getElem_cons_succ, List.getElem_cons_zero, Act.put, List.setIfInBounds_toArray, List.set_cons_zero, List.set_cons_succ]
      refine wpAnyH_ready (rs := [10]) (by kernel_rfl) (by simp) ?_
      refine AllReadyH.cons rfl (fun K hK => ?_) AllReadyH.nil
      go_simp
      refine (span_any _ _ _).mono ?_
      rw [HS.out]
      rintro e w2 ⟨rfl, h2⟩
      rw [h2]
      clear h2
      refine hK.out _ _ (hH1) (fun hH2 => ?_)
      clear hK K
      refine wpAnyH_take (i := 11) (v := ?_) rfl (by kernel_rfl) (by kernel_rfl) (by kernel_rfl) (fun _ _ _ h => h) (Or.inl ⟨by rfl, ?_⟩) hH2 ?_
      rotate_left
      · intro W hSw; (try dsimp only at hSw); (try go_split_ands); go_simp; (try with_reducible rfl)
      simp only [List.getElem_toArray, List.getElem_cons_succ, List.getElem_cons_zero, Act.put, List.setIfInBounds_toArray, List.set_cons_zero, List.set_cons_succ]
      refine wpAnyH_take (i := 12) (v := ?_) rfl (by kernel_rfl) (by kernel_rfl) (by kernel_rfl) (fun _ _ _ h => h) (Or.inl ⟨by rfl, ?_⟩) hH2 ?_
      rotate_left
      · intro W hSw; (try dsimp only at hSw); (try go_split_ands); go_simp; (try with_reducible rfl)
      simp only [List.getElem_toArray, List.getElem_cons_succ, List.getElem_cons_zero, Act.put, List.setIfInBounds_toArray, List.set_cons_zero, List.set_cons_succ]
      refine' wpAnyH_take (i := 13) rfl (by kernel_rfl) (by kernel_rfl) (by kernel_rfl) (fun _ _ _ h => h) (Or.inr ⟨by rfl, rfl⟩) hH2 _
      simp only [List.getElem_toArray, List.getElem_cons_succ, List.getElem_cons_zero, Act.put, List.setIfInBounds_toArray, List.set_cons_zero, List.set_cons_succ]
      refine' wpAnyH_take (i := 14) rfl (by kernel_rfl) (by kernel_rfl) (by kernel_rfl) (fun _ _ _ h => h) (Or.inr ⟨by rfl, rfl⟩) hH2 _
      simp only [List.getElem_toArray, List.getElem_cons_succ, List.getElem_cons_zero, Act.put, List.setIfInBounds_toArray, List.set_cons_zero, List.set_cons_succ]
      refine' wpAnyH_take (i := 15) rfl (by kernel_rfl) (by kernel_rfl) (by kernel_rfl) (fun _ _ _ h => h) (Or.inr ⟨by rfl, rfl⟩) hH2 _
      simp only [List.getElem_toArray, List.getElem_cons_succ, List.getElem_cons_zero, Act.put, List.setIfInBounds_toArray, List.set_cons_zero, List.set_cons_succ]
      refine' wpAnyH_take (i := 16) rfl (by kernel_rfl) (by kernel_rfl) (by kernel_rfl) (fun _ _ _ h => h) (Or.inr ⟨by rfl, rfl⟩) hH2 _
      simp only [List.getElem_toArray, List.getElem_cons_succ, List.getElem_cons_zero, Act.put, List.setIfInBounds_toArray, List.set_cons_zero, List.set_cons_succ]
      refine' wpAnyH_take (i := 17) rfl (by kernel_rfl) (by kernel_rfl) (by kernel_rfl) (fun _ _ _ h => h) (Or.inr ⟨by rfl, rfl⟩) hH2 _
      simp only [List.getElem_toArray, List.getElem_cons_succ, List.getElem_cons_zero, Act.put, List.setIfInBounds_toArray, List.set_cons_zero, List.set_cons_succ]
      refine wpAnyH_ready (rs := [18]) (by kernel_rfl) (by simp) ?_
      refine AllReadyH.cons rfl (fun K hK => ?_) AllReadyH.nil
      go_simp
      refine hK.out _ _ (hH2) (fun hH3 => ?_)
      clear hK K
      refine wpAnyH_take (i := 19) (v := ?_) rfl (by kernel_rfl) (by kernel_rfl) (by kernel_rfl) (fun _ _ _ h => h) (Or.inl ⟨by rfl, ?_⟩) hH3 ?_
      rotate_left
      · intro W hSw; (try dsimp only at hSw); (try go_split_ands); go_simp; (try with_reducible rfl)
      simp only [List.getElem_toArray, List.getElem_cons_succ, List.getElem_cons_zero, Act.put, List.setIfInBounds_toArray, List.set_cons_zero, List.set_cons_succ]
      refine wpAnyH_ready (rs := [20]) (by kernel_rfl) (by simp) ?_
      refine AllReadyH.cons rfl (fun K hK => ?_) AllReadyH.nil
      go_simp
      refine hK.out _ _ (hH3) (fun hH4 => ?_)
      clear hK K
      refine wpAnyH_done (by kernel_rfl) ?_ _
      have HB2 : Hid (Below w.heap.size w w') := bundrew' hb
      clear hb
      go_wp2
      go_ret
      exact ⟨by rw [HM.out]; rfl, HB2.out⟩
    · go_enter Tryz.func204, Tryz.ntmps204
      go_wp2
      refine wp_region_held_drew (S := fun W => W.cell? ⟨gt, 0, none⟩ = some (.func (.func 168) #[] #[.pointer (some ⟨g, 0, none⟩)]) ∧ W.cell? ⟨gl, ol + 2, none⟩ = some (.int .i64 x2) ∧ W.cell? ⟨gl, ol + 3, none⟩ = some (.int .i64 x3) ∧ W.cell? ⟨gl, ol + 4, none⟩ = some (.int .i64 x4)) (by kernel_rfl) (by (simp only [World.cell?_drew]); exact ⟨hv, c2, c3, c4⟩) (fun hHeld => ?_)
      refine wpAnyH_take (i := 0) (v := ?_) rfl (by kernel_rfl) (by kernel_rfl) (by kernel_rfl) (fun _ _ _ h => h) (Or.inl ⟨by rfl, ?_⟩) hHeld ?_
      rotate_left
      · intro W hSw; (try dsimp only at hSw); (try go_split_ands); go_simp; (try with_reducible rfl)
      simp only [List.getElem_toArray, List.getElem_cons_zero, Act.put, List.setIfInBounds_toArray, List.set_cons_zero, List.set_cons_succ]
      refine wpAnyH_take (i := 1) (v := ?_) rfl (by kernel_rfl) (by kernel_rfl) (by kernel_rfl) (fun _ _ _ h => h) (Or.inl ⟨by rfl, ?_⟩) hHeld ?_
      rotate_left
      · intro W hSw; (try dsimp only at hSw); (try go_split_ands); go_simp; (try with_reducible rfl)
      simp only [List.getElem_toArray, List.getElem_cons_succ, List.getElem_cons_zero, Act.put, List.setIfInBounds_toArray, List.set_cons_zero, List.set_cons_succ]
      refine wpAnyH_ready (rs := [2]) (by kernel_rfl) (by simp) ?_
      refine AllReadyH.cons rfl (fun K hK => ?_) AllReadyH.nil
      go_simp
      refine (within_any bndF xs HX.out.2.1 HX.out.2.2.1 HX.out.1 HX.out.2.2.2.1 (by show 5 ≤ 13; decide) (by decide)).mono ?_
      rw [HW.out]
      rintro e w' ⟨rfl, hb⟩
      refine hK.out _ _ ((have hU := Upd.of_below (S := fun _ => False) hb; ⟨hU.cellv hHeld.1 (fun h => h), hU.cellv hHeld.2.1 (fun h => h), hU.cellv hHeld.2.2.1 (fun h => h), hU.cellv hHeld.2.2.2 (fun h => h)⟩)) (fun hH1 => ?_)
      clear hK K
      refine wpAnyH_take (i := 3) (v := ?_) rfl (by kernel_rfl) (by kernel_rfl) (by kernel_rfl) (fun _ _ _ h => h) (Or.inl ⟨by rfl, ?_⟩) hH1 ?_
      rotate_left
      · intro W hSw; (try dsimp only at hSw); (try go_split_ands); go_simp; (try with_reducible rfl)
      simp only [List.getElem_toArray, List.getElem_cons_succ, List.getElem_cons_zero, Act.put, List.setIfInBounds_toArray, List.set_cons_zero, List.set_cons_succ]
      refine wpAnyH_take (i := 4) (v := ?_) rfl (by kernel_rfl) (by kernel_rfl) (by kernel_rfl) (fun _ _ _ h => h) (Or.inl ⟨by rfl, ?_⟩) hH1 ?_
      rotate_left
      · intro W hSw; (try dsimp only at hSw); (try go_split_ands); go_simp; (try with_reducible rfl)
      simp only [List.getElem_toArray, List.getElem_cons_succ, List.getElem_cons_zero, Act.put, List.setIfInBounds_toArray, List.set_cons_zero, List.set_cons_succ]
      refine wpAnyH_take (i := 5) (v := ?_) rfl (by kernel_rfl) (by kernel_rfl) (by kernel_rfl) (fun _ _ _ h => h) (Or.inl ⟨by rfl, ?_⟩) hH1 ?_
      rotate_left
      · intro W hSw; (try dsimp only at hSw); (try go_split_ands); go_simp; (try with_reducible rfl)
      simp only [List.getElem_toArray, List.getElem_cons_succ, List.getElem_cons_zero, Act.put, List.setIfInBounds_toArray, List.set_cons_zero, List.set_cons_succ]
      refine wpAnyH_take (i := 6) (v := ?_) rfl (by kernel_rfl) (by kernel_rfl) (by kernel_rfl) (fun _ _ _ h => h) (Or.inl ⟨by rfl, ?_⟩) hH1 ?_
      rotate_left
      · intro W hSw; (try dsimp only at hSw); (try go_split_ands); go_simp; (try with_reducible rfl)
      simp only [List.getElem_toArray, List.getElem_cons_succ, List.getElem_cons_zero, Act.put, List.setIfInBounds_toArray, List.set_cons_zero, List.set_cons_succ]
      refine wpAnyH_take (i := 7) (v := ?_) rfl (by kernel_rfl) (by kernel_rfl) (by kernel_rfl) (fun _ _ _ h => h) (Or.inl ⟨by rfl, ?_⟩) hH1 ?_
      rotate_left
      · intro W hSw; (try dsimp only at hSw); (try go_split_ands); go_simp; (try with_reducible rfl)
      simp only [List.getElem_toArray, List.getElem_cons_succ, List.getElem_cons_zero, Act.put, List.setIfInBounds_toArray, List.set_cons_zero, List.set_cons_succ]
      refine wpAnyH_take (i := 8) (v := ?_) rfl (by kernel_rfl) (by kernel_rfl) (by kernel_rfl) (fun _ _ _ h => h) (Or.inl ⟨by rfl, ?_⟩) hH1 ?_
      rotate_left
      · intro W hSw; (try dsimp only at hSw); (try go_split_ands); go_simp; (try with_reducible rfl)
      simp only [List.getElem_toArray, List.getElem_cons_succ, List.getElem_cons_zero, Act.put, List.setIfInBounds_toArray, List.set_cons_zero, List.set_cons_succ]
      refine wpAnyH_take (i := 9) (v := ?_) rfl (by kernel_rfl) (by kernel_rfl) (by kernel_rfl) (fun _ _ _ h => h) (Or.inl ⟨by rfl, ?_⟩) hH1 ?_
      rotate_left
      · intro W hSw; (try dsimp only at hSw); (try go_split_ands); go_simp; (try with_reducible rfl)
      simp only [List.getElem_toArray, List.getElem_cons_succ, List.getElem_cons_zero, Act.put, List.setIfInBounds_toArray, List.set_cons_zero, List.set_cons_succ]
      refine wpAnyH_ready (rs := [10]) (by kernel_rfl) (by simp) ?_
      refine AllReadyH.cons rfl (fun K hK => ?_) AllReadyH.nil
      go_simp
      refine (span_any _ _ _).mono ?_
      rw [HS.out]
      rintro e w2 ⟨rfl, h2⟩
      rw [h2]
      clear h2
      refine hK.out _ _ (hH1) (fun hH2 => ?_)
      clear hK K
      refine wpAnyH_take (i := 11) (v := ?_) rfl (by kernel_rfl) (by kernel_rfl) (by kernel_rfl) (fun _ _ _ h => h) (Or.inl ⟨by rfl, ?_⟩) hH2 ?_
      rotate_left
      · intro W hSw; (try dsimp only at hSw); (try go_split_ands); go_simp; (try with_reducible rfl)
      simp only [List.getElem_toArray, List.getElem_cons_succ, List.getElem_cons_zero, Act.put, List.setIfInBounds_toArray, List.set_cons_zero, List.set_cons_succ]
      refine wpAnyH_take (i := 12) (v := ?_) rfl (by kernel_rfl) (by kernel_rfl) (by kernel_rfl) (fun _ _ _ h => h) (Or.inl ⟨by rfl, ?_⟩) hH2 ?_
      rotate_left
      · intro W hSw; (try dsimp only at hSw); (try go_split_ands); go_simp; (try with_reducible rfl)
      simp only [List.getElem_toArray, List.getElem_cons_succ, List.getElem_cons_zero, Act.put, List.setIfInBounds_toArray, List.set_cons_zero, List.set_cons_succ]
      refine wpAnyH_take (i := 13) (v := ?_) rfl (by kernel_rfl) (by kernel_rfl) (by kernel_rfl) (fun _ _ _ h => h) (Or.inl ⟨by rfl, ?_⟩) hH2 ?_
      rotate_left
      · intro W hSw; (try dsimp only at hSw); (try go_split_ands); go_simp; (try with_reducible rfl)
      simp only [List.getElem_toArray, List.getElem_cons_succ, List.getElem_cons_zero, Act.put, List.setIfInBounds_toArray, List.set_cons_zero, List.set_cons_succ]
      refine wpAnyH_take (i := 14) (v := ?_) rfl (by kernel_rfl) (by kernel_rfl) (by kernel_rfl) (fun _ _ _ h => h) (Or.inl ⟨by rfl, ?_⟩) hH2 ?_
      rotate_left
      · intro W hSw; (try dsimp only at hSw); (try go_split_ands); go_simp; (try with_reducible rfl)
      simp only [List.getElem_toArray, List.getElem_cons_succ, List.getElem_cons_zero, Act.put, List.setIfInBounds_toArray, List.set_cons_zero, List.set_cons_succ]
      refine wpAnyH_take (i := 15) (v := ?_) rfl (by kernel_rfl) (by kernel_rfl) (by kernel_rfl) (fun _ _ _ h => h) (Or.inl ⟨by rfl, ?_⟩) hH2 ?_
      rotate_left
      · intro W hSw; (try dsimp only at hSw); (try go_split_ands); go_simp; (try with_reducible rfl)
      simp only [List.getElem_toArray, List.getElem_cons_succ, List.getElem_cons_zero, Act.put, List.setIfInBounds_toArray, List.set_cons_zero, List.set_cons_succ]
      refine wpAnyH_take (i := 16) (v := ?_) rfl (by kernel_rfl) (by kernel_rfl) (by kernel_rfl) (fun _ _ _ h => h) (Or.inl ⟨by rfl, ?_⟩) hH2 ?_
      rotate_left
      · intro W hSw; (try dsimp only at hSw); (try go_split_ands); go_simp; (try with_reducible rfl)
      simp only [List.getElem_toArray, List.getElem_cons_succ, List.getElem_cons_zero, Act.put, List.setIfInBounds_toArray, List.set_cons_zero, List.set_cons_succ]
      refine wpAnyH_take (i := 17) (v := ?_) rfl (by kernel_rfl) (by kernel_rfl) (by kernel_rfl) (fun _ _ _ h => h) (Or.inl ⟨by rfl, ?_⟩) hH2 ?_
      rotate_left
      · intro W hSw; (try dsimp only at hSw); (try go_split_ands); go_simp; (try with_reducible rfl)
      simp only [List.getElem_toArray, List.getElem_cons_succ, List.getElem_cons_zero, Act.put, List.setIfInBounds_toArray, List.set_cons_zero, List.set_cons_succ]
      refine wpAnyH_ready (rs := [18]) (by kernel_rfl) (by simp) ?_
      refine AllReadyH.cons rfl (fun K hK => ?_) AllReadyH.nil
      go_simp
      refine (hd8.out ▸ sectors_may (cl := cl - 5) x4 (xs.drop 5) (by rw [hd8.out]; decide) (ints_drop (Below.range hb HX.out.1))).mono ?_
      rw [HE.out]
      rintro e w3 ⟨rfl, h3⟩
      rw [← h3]
      clear h3
      refine hK.out _ _ (hH2) (fun hH3 => ?_)
      clear hK K
      refine wpAnyH_take (i := 19) (v := ?_) rfl (by kernel_rfl) (by kernel_rfl) (by kernel_rfl) (fun _ _ _ h => h) (Or.inl ⟨by rfl, ?_⟩) hH3 ?_
      rotate_left
      · intro W hSw; (try dsimp only at hSw); (try go_split_ands); go_simp; (try with_reducible rfl)
      simp only [List.getElem_toArray, List.getElem_cons_succ, List.getElem_cons_zero, Act.put, List.setIfInBounds_toArray, List.set_cons_zero, List.set_cons_succ]
      refine wpAnyH_ready (rs := [20]) (by kernel_rfl) (by simp) ?_
      refine AllReadyH.cons rfl (fun K hK => ?_) AllReadyH.nil
      go_simp
      refine hK.out _ _ (hH3) (fun hH4 => ?_)
      clear hK K
      refine wpAnyH_done (by kernel_rfl) ?_ _
      have HB2 : Hid (Below w.heap.size w w') := bundrew' hb
      clear hb
      go_wp2
      go_ret
      exact ⟨by rw [HM.out]; rfl, HB2.out⟩
theorem within_atF {B : List (Int × Int)} {xs : List Int} (h : withinB B xs = true) {i : Nat} (h1 : i < B.length) (h2 : i < xs.length) : B[i].1 ≤ xs[i] ∧ xs[i] ≤ B[i].2 := by
  have h := List.all_eq_true.1 h (B[i], xs[i]) (List.mem_iff_getElem.2 ⟨i, by simp; omega, by simp⟩)
  simpa [inB] using h
theorem mayF_fits {xs : List Int} (hx : xs.length = 13) (h : mayF xs = true) : (∀ x ∈ xs, 0 ≤ x) ∧ Fits (numL [6, 6, 2, 2, 1, 3, 3, 3, 3, 3, 3, 3, 3] xs) := by
  simp only [mayF, Bool.and_eq_true] at h
  obtain ⟨⟨h1, h2⟩, h3⟩ := h
  have a0 := within_atF h1 (i := 0) (by decide) (by omega)
  have a1 := within_atF h1 (i := 1) (by decide) (by omega)
  have a2 := within_atF h1 (i := 2) (by decide) (by omega)
  have a3 := within_atF h1 (i := 3) (by decide) (by omega)
  have a4 := within_atF h1 (i := 4) (by decide) (by omega)
  simp [bndF] at a0 a1 a2 a3 a4
  have hr : ∀ j (hj : 5 + j < xs.length), 0 ≤ xs[5 + j] ∧ xs[5 + j] ≤ 1048576 := fun j hj => by
    have hs := List.all_eq_true.1 h3 j (by simp; omega)
    have e : (xs.drop 5).getD j 0 = xs[5 + j] := by simp [List.getD_eq_getElem?_getD, hj]
    unfold secAt at hs
    rw [e] at hs
    split at hs
    · simp at hs; omega
    · simp at hs; omega
  have hb : ∀ i (h1 : i < xs.length) (h2 : i < [6, 6, 2, 2, 1, 3, 3, 3, 3, 3, 3, 3, 3].length), 0 ≤ xs[i] ∧ xs[i] < 256 ^ [6, 6, 2, 2, 1, 3, 3, 3, 3, 3, 3, 3, 3][i] := by
    intro i hi hi2
    by_cases hi5 : i < 5
    · rcases i with _ | _ | _ | _ | _ | i
      all_goals first | omega | (simp; omega)
    · obtain ⟨j, rfl⟩ : ∃ j, i = 5 + j := ⟨i - 5, by omega⟩
      obtain ⟨r1, r2⟩ := hr j hi
      refine ⟨r1, ?_⟩
      have hj : j = 0 ∨ j = 1 ∨ j = 2 ∨ j = 3 ∨ j = 4 ∨ j = 5 ∨ j = 6 ∨ j = 7 := by omega
      rcases hj with rfl | rfl | rfl | rfl | rfl | rfl | rfl | rfl <;> simp at r2 ⊢ <;> omega
  refine ⟨fun x hx' => ?_, numL_fits (by rw [hx]; rfl) (by decide) (by decide) hb⟩
  obtain ⟨i, hi, rfl⟩ := List.getElem_of_mem hx'
  exact (hb i hi (by rw [hx] at hi; exact hi)).1
set_option maxRecDepth 100000 in
set_option maxHeartbeats 2000000 in
theorem putF_yes {w : World} (k : Nat) (hk : k < 256) (l : List (Nat × Nat)) (hl : Fits l) (m : Nat) (hm : l.length = m) (hm2 : m ≤ 100) (gs cl : Nat) (ft fm : Nat) (ct cm : Array Value) (bv : Value) (_hbv : bv.oneCell' = true) (cs : List Value)
    (hcs : (Tryz.prog.info? 58).map (·.size) = some cs.length) (hs : w.rangeAt gs 0 (ints (sizesL l))) (hN : Nib w)
    (entT : ∀ args w, (callFunc ft args).run Tryz.prog w = .ok (.enter ft args) w) (entM : ∀ args w, (callFunc fm args).run Tryz.prog w = .ok (.enter fm args) w)
    (htell : ∀ W, Below w.heap.size w W → Calls Tryz.prog ft (#[.agg cs.toArray] ++ ct) W (TellPostC W m (numsL l)))
    (hmay : ∀ W gl c, m ≤ c → c ≤ maxLen → Below w.heap.size w W → W.rangeAt gl 0 (ints (numsL l)) → Calls Tryz.prog fm (#[.slice (some ⟨gl, 0, none⟩) m c] ++ cm) W fun e W' => e = .returned (.bool true) ∧ Below W.heap.size W W') :
    Calls Tryz.prog 163 #[.agg #[.int .i64 (k : Int), .slice (some ⟨gs, 0, none⟩) m cl, .func (.func ft) #[] ct, .func (.func fm) #[] cm, bv], .agg cs.toArray] w
      fun e w' => e = .returned (.tuple #[.agg (bkC (sectB k l)).toArray, .int .i64 0]) ∧ Below w.heap.size w w' := by
  have H := Lib.hid (And.intro hs (And.intro hN (And.intro htell (And.intro hmay (And.intro hk (And.intro hl hm))))))
  have HC := Lib.hid hcs
  clear hs hN htell hmay hk hl hm hcs
  have hr : ((w.alloc (.cells #[.int .i64 (k : Int), .slice (some ⟨gs, 0, none⟩) m cl, .func (.func ft) #[] ct, .func (.func fm) #[] cm, bv] 258)).alloc (.cells cs.toArray 58)).rangeAt (w.heap.size + 1) 0 cs := range_of_block (heap_alloc_last _ _ (by simp))
  go_enter Tryz.func163, Tryz.ntmps163
  go_wp2_with (first
    | (refine wpList_load_mid rfl _ _ rfl _ _ rfl _ _ (World.rangeAt_alloc hr _) Tryz.underlying58 rfl HC.out ?_)
    | fail)
  show Calls _ _ _ (((w.alloc (.cells #[.int .i64 (k : Int), .slice (some ⟨gs, 0, none⟩) m cl, .func (.func ft) #[] ct, .func (.func fm) #[] cm, bv] 258)).alloc (.cells cs.toArray 58)).alloc (.cells (bkC zB).toArray 23)) _
  obtain ⟨h1, h2, h3, h4, h5⟩ := three_new w (.cells #[.int .i64 (k : Int), .slice (some ⟨gs, 0, none⟩) m cl, .func (.func ft) #[] ct, .func (.func fm) #[] cm, bv] 258) (.cells cs.toArray 58) (.cells (bkC zB).toArray 23)
  clear hr
  generalize ((w.alloc (.cells #[.int .i64 (k : Int), .slice (some ⟨gs, 0, none⟩) m cl, .func (.func ft) #[] ct, .func (.func fm) #[] cm, bv] 258)).alloc (.cells cs.toArray 58)).alloc (.cells (bkC zB).toArray 23) = w3 at *
  refine (H.out.2.2.1 w3 (Upd.below h5)).mono ?_
  rintro e w4 ⟨gl, c4, rfl, hc4, hc5, hr4, hb4⟩
  have hu4 : Upd (fun _ => False) w3 w4 := Upd.of_below hb4
  have f1 := (hu4.block _ (lt_of_block h1) (fun h => h)).trans h1
  have f3 := (hu4.block _ (lt_of_block h3) (fun h => h)).trans h3
  have m3 : w4.cell? ⟨w.heap.size, 3, none⟩ = some (.func (.func fm) #[] cm) := cell_of_block f1 3
  have H4 := Lib.hid (And.intro hr4 (And.intro (h5.trans hu4) (And.intro f1 (And.intro f3 h4))))
  clear h1 h2 h3 h4 h5 hr4 hb4 hu4 f1 f3
  go_wp2_with fail
  refine (H.out.2.2.2.1 w4 gl c4 hc4 hc5 (Upd.below H4.out.2.1) H4.out.1).mono ?_
  rintro e w5 ⟨rfl, hb5⟩
  have hu5 : Upd (fun _ => False) w4 w5 := Upd.of_below hb5
  obtain ⟨r4, u4, f1, f3, z4⟩ := H4.out
  have r5 := hu5.range r4 (fun h => h)
  have g1 := (hu5.block _ (lt_of_block f1) (fun h => h)).trans f1
  have g3 := (hu5.block _ (lt_of_block f3) (fun h => h)).trans f3
  have m0 : w5.cell? ⟨w.heap.size, 0, none⟩ = some (.int .i64 (k : Int)) := cell_of_block g1 0
  have z5 : w.heap.size + 3 ≤ w5.heap.size := by have h1 := lt_of_block g3; have h2 := hu5.size; have h3 := u4.size; have h4 := lt_of_block f3; have h5 := z4; have h6 := H4.out.2.2.2.2; omega
  have H5 := Lib.hid (And.intro r5 (And.intro (u4.trans hu5) (And.intro g1 g3)))
  clear r4 u4 f1 f3 z4 r5 g1 g3 hu5 hb5 m3
  go_wp2_with fail
  generalize hM : w.heap.size = M at *
  have HM := Lib.hid hM
  clear hM
  refine wp_region_held_drew (S := fun W => W.cell? ⟨M, 0, none⟩ = some (.int .i64 (k : Int))) (by kernel_rfl) (by rw [World.cell?_drew]; exact m0) (fun hHeld => ?_)
  refine wpAnyH_take (i := 1) (v := ?_) rfl (by kernel_rfl) (by kernel_rfl) (by kernel_rfl) (fun _ _ _ h => h) (Or.inl ⟨by rfl, ?_⟩) hHeld ?_
  rotate_left
  · intro W hSw; (try dsimp only at hSw); (try go_split_ands); go_simp; (try with_reducible rfl)
  simp only [Act.put, List.setIfInBounds_toArray]
  refine wpAnyH_take (i := 2) (v := ?_) rfl (by kernel_rfl) (by kernel_rfl) (by kernel_rfl) (fun _ _ _ h => h) (Or.inl ⟨by rfl, ?_⟩) hHeld ?_
  rotate_left
  · intro W hSw; (try dsimp only at hSw); (try go_split_ands); go_simp; (try with_reducible rfl)
  simp only [Act.put]
  refine wpAnyH_ready (rs := [0]) (by kernel_rfl) (by simp) ?_
  refine AllReadyH.cons rfl (fun K hK => ?_) AllReadyH.nil
  go_simp
  refine (wwrite _).mono ?_
  rintro e w6 ⟨g, rfl, hW, hge, hB⟩
  have hge' : w5.heap.size ≤ g := hge
  refine hK.out _ _ ((Upd.of_below (S := fun _ => False) hB).cellv hHeld (fun h => h)) (fun hHeld2 => ?_)
  clear hK K
  refine wpAnyH_ready (rs := [3]) (by kernel_rfl) (by simp) ?_
  refine AllReadyH.cons rfl (fun K hK => ?_) AllReadyH.nil
  go_simp
  refine (wput hW k 1 (by decide) (by decide) (by have := H.out.2.2.2.2.1; omega) (by decide)).mono ?_
  rintro e w7 ⟨rfl, hW2, hU⟩
  refine hK.out _ _ (hU.cellv hHeld2 (by omega)) (fun hHeld3 => ?_)
  clear hK K
  refine wpAnyH_ready (rs := [4]) (by kernel_rfl) (by simp) ?_
  refine AllReadyH.cons rfl (fun K hK => ?_) AllReadyH.nil
  go_simp
  refine hK.out _ _ (hHeld3) (fun _ => ?_)
  clear hK K
  refine wpAnyH_done (by kernel_rfl) ?_ _
  obtain ⟨r5, u5, g1, g3⟩ := H5.out
  obtain ⟨hs, hN, -, -, hk, hl, hm⟩ := H.out
  have u57 : Upd (fun j => j = g) w5 w7 := ((Upd.of_below (S := fun _ => False) (bundrew' hB)).mono (fun _ _ h => h.elim)).trans hU
  have glt : gl < w5.heap.size ∨ m = 0 := by
    rcases Nat.eq_zero_or_pos m with h | h
    · exact .inr h
    · exact .inl (World.block_lt_of_cell? w5 _ (r5 0 _ (numsL_get (by omega))))
  have nM : w.heap.size = M := HM.out
  have gslt : gs < w.heap.size ∨ m = 0 := by
    rcases Nat.eq_zero_or_pos m with h | h
    · exact .inr h
    · exact .inl (World.block_lt_of_cell? w _ (hs 0 _ (sizesL_get (by omega))))
  have ws5 := u5.size
  have m1 : w7.cell? ⟨M, 1, none⟩ = some (.slice (some ⟨gs, 0, none⟩) m cl) := u57.cellv (cell_of_block g1 1) (by omega)
  have g3' := (u57.block (M + 1 + 1) (lt_of_block g3) (by omega)).trans g3
  have hN7 : Nib w7 := ((hN.keep u5 (fun h => h)).keep u57 (by have := hN.lt; omega))
  have hlow : Below M w w7 := below_upd (by rw [← nM]; exact Upd.below u5) u57 (by rw [← nM]; exact Nat.le_refl _) (fun k e => by omega)
  have hr7 : ∀ i (hi : i < l.length) W, Upd (fun j => j = g) w7 W → W.cell? ⟨gl, 0 + i, none⟩ = some (.int .i64 (l[i].1 : Int)) := fun i hi W hW => hW.cellv (u57.cellv (r5 i _ (numsL_get hi)) (by omega)) (by omega)
  have hs7 : ∀ i (hi : i < l.length) W, Upd (fun j => j = g) w7 W → W.cell? ⟨gs, 0 + i, none⟩ = some (.int .i64 (l[i].2 : Int)) := fun i hi W hW => hW.cellv (u57.cellv ((u5.range hs (fun h => h)) i _ (sizesL_get hi)) (by omega)) (by omega)
  have H7 := Lib.hid (And.intro hr7 (And.intro hs7 (And.intro m1 (And.intro g3' (And.intro hN7 (And.intro hlow (And.intro hl (And.intro hm hW2))))))))
  have hgeM : M ≤ g := by omega
  have hgM : ¬ M = g := by omega
  have hgM2 : ¬ M + 1 + 1 = g := by omega
  have hMw := lt_of_block g3'
  rename_i hx
  clear hx hHeld hHeld2 hHeld3 hW hge hB hU hW2 hN hs hk hl hm r5 u5 g1 g3 u57 glt gslt nM ws5 m1 g3' hN7 hlow hr7 hs7 m0
  go_wp2
  go_loopw [26] (fun s26 wr => ∃ i : Nat, i ≤ m ∧ s26 = .int .i64 i ∧ WrAt wr g (lowB k 1 ++ encB (l.take i)) ∧ Upd (fun j => j = g) w7 wr) (fun s26 _ => m - (intOf s26).toNat)
  case atStart => exact ⟨0, Nat.zero_le _, rfl, by simpa [encB] using H7.out.2.2.2.2.2.2.2.2, Upd.refl _ _⟩
  case round =>
    obtain ⟨i, hi, rfl, hW, hu⟩ := hrel
    by_cases hlt : i < m
    · obtain ⟨hr7, hs7, m1, g3', hN7, hlow, hl, hm, -⟩ := H7.out
      have hil : i < l.length := by omega
      have x1 := hr7 i hil wr hu
      have x2 := hs7 i hil wr hu
      have x3 := hu.cellv m1 hgM
      rw [Nat.zero_add] at x1 x2
      have hfit := hl.1 l[i] (List.getElem_mem hil)
      have hsz := sizes_take l hil
      have hts : Hid (encB (l.take (i + 1)) = encB (l.take i) ++ lowB l[i].1 l[i].2) := by show _ = _; rw [List.take_succ_eq_append_getElem hil, encB_snoc]
      have hlen : (lowB k 1 ++ encB (l.take i)).length + l[i].2 ≤ 60 := by
        rw [List.length_append, lowB_len, encB_len]; have := hl.2; omega
      have b1 : (0 : Int) ≤ (i : Int) ∧ (i : Int) < (m : Int) := by omega
      have HX := Lib.hid (And.intro hW (And.intro hu (And.intro hfit hlen)))
      clear hr7 hs7 m1 g3' hN7 hlow hl hm hW hu hfit hsz hlen
      obtain ⟨b1, b2⟩ := b1
      generalize l[i] = p at *
      go_wp2_with fail
      refine (wput HX.out.1 p.1 p.2 HX.out.2.2.1.2.1 HX.out.2.2.1.2.2 HX.out.2.2.1.1 HX.out.2.2.2).mono ?_
      rintro e w8 ⟨rfl, hW8, hU8⟩
      have HZ := Lib.hid (And.intro hW8 hU8)
      clear hW8 hU8
      go_wp2
      go_roundw
      case rel => exact ⟨i + 1, by omega, by go_num, by rw [hts.out, ← List.append_assoc]; exact HZ.out.1, HX.out.2.1.trans HZ.out.2⟩
      case measure => simp [intOf]; omega
    · obtain rfl : i = m := by omega
      obtain ⟨hr7, hs7, m1, g3', hN7, hlow, hl, hm, -⟩ := H7.out
      have hN8 := hN7.keep hu (by have := (H.out.2.1).lt; have := HM.out; omega)
      rw [List.take_of_length_le (by omega)] at hW
      have hg3 := (hu.block (M + 1 + 1) (lt_of_block g3') hgM2).trans g3'
      have hlen : Hid ((sectB k l).length = 64) := sectB_len hl.2
      have HX := Lib.hid (And.intro hW (And.intro hN8 (And.intro hu (And.intro hg3 (And.intro hlow hl)))))
      have hus := hu.size
      clear hr7 hs7 m1 g3' hN7 hlow hl hm hW hu hN8 hg3
      go_wp2_with fail
      refine (wseal HX.out.1 HX.out.2.1).mono ?_
      rintro e w9 ⟨rfl, hb9⟩
      have hg9 := (hb9.block (M + 1 + 1) (lt_of_block HX.out.2.2.2.1)).trans HX.out.2.2.2.1
      have hth : w9.there (M + 1 + 1) 0 64 := fun j hj => by
        rw [cell_of_block hg9, frozen_of_block hg9]
        exact ⟨by rw [Nat.zero_add, Array.getElem?_eq_getElem (by rw [bkC_size _ zB_len]; exact hj)]; rfl, rfl⟩
      have hbl : Hid (Below M w w9) := (below_upd HX.out.2.2.2.2.1 HX.out.2.2.1 (by have := HM.out; omega) (fun k e => by omega)).trans (hb9.mono (by omega))
      have hsl := hlen.out
      have hst : w9.there (M + 1 + 1) 0 (bkC (sectB k l)).toArray.size := by rw [bkC_size _ hsl]; exact hth
      have hst2 : w9.there (M + 1 + 1) 0 (bkC (sectB k l)).length := by rw [bkC_len, hsl]; exact hth
      have hsz2 : (Tryz.prog.info? 23).map (·.size) = some (bkC (sectB k l)).toArray.size := by rw [bkC_size _ hsl]; exact sizeBk'
      have HST := Lib.hid (And.intro hst (And.intro hsz2 (And.intro hst2 hsl)))
      clear hst hsz2 hst2 hsl hg9 hth hb9 hlen
      rw [show sealB (padB (lowB k 1 ++ encB l)) = sectB k l from rfl]
      generalize hsb : sectB k l = sb at *
      have Hsb := Lib.hid hsb
      clear hsb
      go_wp2_with (first
        | (refine wpList_store_mid rfl _ _ _ rfl _ _ (bkC sb).toArray rfl rfl HST.out.1 HST.out.2.1 (all_oneCell_toArray (bkC_one _)) ?_)
        | fail)
      refine bodyPost_ret (results_mid2 rfl _ _ (M + 1 + 1) 0 (bkC sb) _ rfl (World.rangeAt_setCells_same _ _ _ _ HST.out.2.2.1) Tryz.underlying23 rfl (sizeBk _ HST.out.2.2.2)) rfl
          ⟨by rw [Hsb.out]; rfl, ?_⟩
      rw [HM.out]
      exact below_upd hbl.out (upd_row w9 (M + 1 + 1) 0 _) (by have := HM.out; omega) (fun k e => by omega)
set_option maxRecDepth 100000 in
set_option maxHeartbeats 2000000 in
theorem putF_no {w : World} (k : Nat) (xs : List Int) (m : Nat) (gs cl : Nat) (ft fm : Nat) (ct cm : Array Value) (bv : Value) (_hbv : bv.oneCell' = true) (cs : List Value)
    (hcs : (Tryz.prog.info? 58).map (·.size) = some cs.length) 
    (entT : ∀ args w, (callFunc ft args).run Tryz.prog w = .ok (.enter ft args) w) (entM : ∀ args w, (callFunc fm args).run Tryz.prog w = .ok (.enter fm args) w)
    (htell : ∀ W, Below w.heap.size w W → Calls Tryz.prog ft (#[.agg cs.toArray] ++ ct) W (TellPostC W m xs))
    (hmay : ∀ W gl c, m ≤ c → c ≤ maxLen → Below w.heap.size w W → W.rangeAt gl 0 (ints xs) → Calls Tryz.prog fm (#[.slice (some ⟨gl, 0, none⟩) m c] ++ cm) W fun e W' => e = .returned (.bool false) ∧ Below W.heap.size W W') :
    Calls Tryz.prog 163 #[.agg #[.int .i64 (k : Int), .slice (some ⟨gs, 0, none⟩) m cl, .func (.func ft) #[] ct, .func (.func fm) #[] cm, bv], .agg cs.toArray] w
      fun e w' => e = .returned (.tuple #[bkV zB, .int .i64 10]) ∧ Below w.heap.size w w' := by
  have H := Lib.hid (And.intro htell hmay)
  have HC := Lib.hid hcs
  clear htell hmay hcs
  have hr : ((w.alloc (.cells #[.int .i64 (k : Int), .slice (some ⟨gs, 0, none⟩) m cl, .func (.func ft) #[] ct, .func (.func fm) #[] cm, bv] 258)).alloc (.cells cs.toArray 58)).rangeAt (w.heap.size + 1) 0 cs := range_of_block (heap_alloc_last _ _ (by simp))
  go_enter Tryz.func163, Tryz.ntmps163
  go_wp2_with (first
    | (refine wpList_load_mid rfl _ _ rfl _ _ rfl _ _ (World.rangeAt_alloc hr _) Tryz.underlying58 rfl HC.out ?_)
    | fail)
  show Calls _ _ _ (((w.alloc (.cells #[.int .i64 (k : Int), .slice (some ⟨gs, 0, none⟩) m cl, .func (.func ft) #[] ct, .func (.func fm) #[] cm, bv] 258)).alloc (.cells cs.toArray 58)).alloc (.cells (bkC zB).toArray 23)) _
  obtain ⟨h1, h2, h3, h4, h5⟩ := three_new w (.cells #[.int .i64 (k : Int), .slice (some ⟨gs, 0, none⟩) m cl, .func (.func ft) #[] ct, .func (.func fm) #[] cm, bv] 258) (.cells cs.toArray 58) (.cells (bkC zB).toArray 23)
  clear hr
  generalize ((w.alloc (.cells #[.int .i64 (k : Int), .slice (some ⟨gs, 0, none⟩) m cl, .func (.func ft) #[] ct, .func (.func fm) #[] cm, bv] 258)).alloc (.cells cs.toArray 58)).alloc (.cells (bkC zB).toArray 23) = w3 at *
  refine (H.out.1 w3 (Upd.below h5)).mono ?_
  rintro e w4 ⟨gl, c4, rfl, hc4, hc5, hr4, hb4⟩
  have hu4 : Upd (fun _ => False) w3 w4 := Upd.of_below hb4
  have f1 := (hu4.block _ (lt_of_block h1) (fun h => h)).trans h1
  have f3 := (hu4.block _ (lt_of_block h3) (fun h => h)).trans h3
  have m3 : w4.cell? ⟨w.heap.size, 3, none⟩ = some (.func (.func fm) #[] cm) := cell_of_block f1 3
  have H4 := Lib.hid (And.intro hr4 (And.intro (h5.trans hu4) (And.intro f1 (And.intro f3 h4))))
  clear h1 h2 h3 h4 h5 hr4 hb4 hu4 f1 f3
  go_wp2_with fail
  refine (H.out.2 w4 gl c4 hc4 hc5 (Upd.below H4.out.2.1) H4.out.1).mono ?_
  rintro e w5 ⟨rfl, hb5⟩
  have hu5 : Upd (fun _ => False) w4 w5 := Upd.of_below hb5
  obtain ⟨r4, u4, f1, f3, z4⟩ := H4.out
  have g3 := (hu5.block _ (lt_of_block f3) (fun h => h)).trans f3
  have hth : w5.there (w.heap.size + 1 + 1) 0 64 := fun j hj => by
    rw [cell_of_block g3, frozen_of_block g3]
    exact ⟨by rw [Nat.zero_add, Array.getElem?_eq_getElem (by rw [bkC_size _ zB_len]; exact hj)]; rfl, rfl⟩
  obtain ⟨z, Hz⟩ : ∃ z : Bk, Hid (z = zB) := ⟨zB, rfl⟩
  have hst : w5.there (w.heap.size + 1 + 1) 0 (bkC z).toArray.size := by rw [Hz.out, bkC_size _ zB_len]; exact hth
  have hst2 : w5.there (w.heap.size + 1 + 1) 0 (bkC z).length := by rw [Hz.out, bkC_len, zB_len]; exact hth
  have hsz2 : (Tryz.prog.info? 23).map (·.size) = some (bkC z).toArray.size := by rw [Hz.out, bkC_size _ zB_len]; exact sizeBk'
  have HST := Lib.hid (And.intro hst (And.intro hsz2 hst2))
  have HU := Lib.hid (u4.trans hu5)
  clear r4 u4 f1 f3 z4 hst hst2 hsz2 hth hu5 hb5 g3 m3
  go_wp2_with (first
      | (refine wpList_store_mid rfl _ _ _ rfl _ _ (bkC z).toArray rfl (by rw [Hz.out]; rfl) HST.out.1 HST.out.2.1 (all_oneCell_toArray (bkC_one _)) ?_)
      | fail)
  exact bodyPost_ret (results_mid2 rfl _ _ (w.heap.size + 1 + 1) 0 (bkC z) _ rfl (World.rangeAt_setCells_same _ _ _ _ HST.out.2.2) Tryz.underlying23 rfl (by rw [Hz.out]; exact sizeBk zB zB_len)) rfl
    ⟨by rw [Hz.out]; rfl, below_upd (Upd.below HU.out) (upd_row w5 (w.heap.size + 1 + 1) 0 _) (Nat.le_refl _) (fun k e => by omega)⟩
end Go.Proofs.YtnadilfobmgebaaGreatDoor
