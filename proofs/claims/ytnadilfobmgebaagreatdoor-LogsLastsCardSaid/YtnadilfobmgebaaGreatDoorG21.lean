/- Pages: may numbers be a page? Pages: may numbers be a page, the whole. -/
import Derived.Test.YtnadilfobmgebaaGreatDoorG20
namespace Go.Proofs.YtnadilfobmgebaaGreatDoor
open Go Go.RowKit
def rowI (xs : List Int) (i : Nat) : List Int := (xs.drop (4 + 4 * i)).take 4
theorem rowI_len {xs : List Int} (h : xs.length = 20) {i : Nat} (hi : i < 4) : (rowI xs i).length = 4 := by simp [rowI]; omega
def bndE : List (Int × Int) := [(0, 4095), (0, 1023), (0, 1), (0, 4294967295)]
def entB (xs : List Int) (i : Nat) : Bool := if (i : Int) < xs.getD 3 0 then withinB bndE (rowI xs i) else decide (rowI xs i = [0, 0, 0, 0])
def entsB (xs : List Int) : Bool := (List.range 4).all (entB xs)
def bndP : List (Int × Int) := [(0, 1099511627776), (0, 255), (1, 256), (0, 4)]
def mayP (xs : List Int) : Bool := withinB bndP xs && decide (xs.getD 1 0 < xs.getD 2 0) && entsB xs
theorem infoEy : (Tryz.prog.info? 354).map (·.size) = some 4 := by kernel_rfl
theorem ints_one (xs : List Int) : ∀ v ∈ ints xs, v.oneCell' = true := by
  intro v hv
  simp only [ints, List.mem_map] at hv
  obtain ⟨x, -, rfl⟩ := hv
  rfl
set_option maxRecDepth 100000 in
theorem row_any {w : World} {g o c : Nat} {xs : List Int} (hr : w.rangeAt g o (ints xs)) (hx : xs.length = 20) (hc : 20 ≤ c) (hm : c ≤ maxLen) (i : Nat) (hi : i < 4) :
    Calls Tryz.prog 259 #[.slice (some ⟨g, o, none⟩) 20 c, .int .i64 (i : Int)] w fun e w' => e = .returned (.agg (ints (rowI xs i)).toArray) ∧ Below w.heap.size w w' := by
  have hr2 : w.rangeAt g (o + (4 + 4 * i)) (ints (rowI xs i)) := fun j v hv => by
    have hj := (List.getElem?_eq_some_iff.1 hv).1
    rw [ints, List.length_map, rowI_len hx hi] at hj
    rw [Nat.add_assoc]
    refine hr _ v ?_
    rw [← hv, ints, ints, List.getElem?_map, List.getElem?_map, rowI, List.getElem?_take, if_pos hj, List.getElem?_drop]
  have hl : (ints (rowI xs i)).length = 4 := by rw [ints, List.length_map, rowI_len hx hi]
  have hsz : (Tryz.prog.info? 354).map (·.size) = some (ints (rowI xs i)).length := by rw [hl]; exact infoEy
  have h1 := ints_one (rowI xs i)
  have hat := fun (w : World) (a : Option Addr) (cc : Nat) => run_arrayAt (P := Tryz.prog) w 354 3 4 a (8 + 4 * i - (4 + 4 * i)) cc Tryz.underlying354 (by omega)
  unfold maxLen at hm
  have b1 : (i : Int) < 4 := by omega
  have b2 : (0 : Int) ≤ (i : Int) := by omega
  have b3 : (4 : Int) + 4 * (i : Int) ≤ 8 + 4 * (i : Int) := by omega
  have b4 : (8 : Int) + 4 * (i : Int) ≤ (c : Int) := by omega
  have e1 : ((4 : Int) + 4 * (i : Int)).toNat = 4 + 4 * i := by omega
  have e2 : ((8 : Int) + 4 * (i : Int)).toNat = 8 + 4 * i := by omega
  have hne : ¬ c = 4 + 4 * i := by omega
  have hrA := World.rangeAt_alloc hr2 (.cells #[.int .i64 0, .int .i64 0, .int .i64 0, .int .i64 0] 354)
  generalize ints (rowI xs i) = L at *
  have H := Lib.hid (And.intro hl (And.intro hsz h1))
  clear hr hx hl h1 hr2 hsz
  go_enter Tryz.func259, Tryz.ntmps259
  go_wp2_with (first
    | refine wpList_load_mid rfl _ _ rfl _ _ rfl _ _ hrA Tryz.underlying354 rfl H.out.2.1 ?_
    | (refine wpList_store_new rfl _ _ _ rfl _ _ _ rfl rfl (by rw [H.out.1]; rfl) H.out.2.1 H.out.2.2 ?_)
    | fail)
  exact bodyPost_ret (results_mid1 rfl _ _ w.heap.size 0 L _ rfl (range_of_block (heap_alloc_last w _ rfl)) Tryz.underlying354 rfl H.out.2.1) rfl ⟨rfl, (Below.refl _ w).alloc (Nat.le_refl _) _⟩
set_option maxRecDepth 100000 in
set_option maxHeartbeats 2000000 in
theorem ents_any {w : World} {g o c : Nat} {xs : List Int} (hr : w.rangeAt g o (ints xs)) (hx : xs.length = 20) (hc : 20 ≤ c) (hm : c ≤ maxLen) :
    Calls Tryz.prog 257 #[.slice (some ⟨g, o, none⟩) 20 c] w fun e w' => e = .returned (.bool (entsB xs)) ∧ Below w.heap.size w w' := by
  have hgl : g < w.heap.size := World.block_lt_of_cell? w _ (ints_range hr (i := 0) (by omega))
  have H := Lib.hid (And.intro hr (And.intro hx (And.intro hc hm)))
  clear hr hx hc hm
  go_enter Tryz.func257, Tryz.ntmps257
  go_wp2
  go_step3
  go_wp2_with fail
  refine (within_ok).mono ?_
  rintro e w1 ⟨rfl, rfl⟩
  have hrb : (w.alloc (.cells (bndC bndE).toArray 202)).rangeAt w.heap.size 0 (bndC bndE) := range_of_block (heap_alloc_last w _ rfl)
  have hz1 : (w.alloc (.cells (bndC bndE).toArray 202)).heap.size = w.heap.size + 1 := by simp
  have hBnd : Bnd ((w.alloc (.cells #[.int .i64 0, .int .i64 4095, .int .i64 0, .int .i64 1023, .int .i64 0, .int .i64 1, .int .i64 0, .int .i64 4294967295] 202)).alloc (.cells #[.slice (some ⟨w.heap.size, 0, none⟩) 4 4] 265)) (.func (.func 168) #[] #[.pointer (some ⟨w.heap.size + 1, 0, none⟩)]) bndE := by
    have := Bnd.made (c := 4) hrb
    rw [hz1] at this
    exact this
  have hb2 : Below w.heap.size w ((w.alloc (.cells #[.int .i64 0, .int .i64 4095, .int .i64 0, .int .i64 1023, .int .i64 0, .int .i64 1, .int .i64 0, .int .i64 4294967295] 202)).alloc (.cells #[.slice (some ⟨w.heap.size, 0, none⟩) 4 4] 265)) := ((Below.refl _ w).alloc (Nat.le_refl _) _).alloc (by simp) _
  clear hrb hz1
  go_wp2
  go_step3
  go_wp2
  generalize (w.alloc (.cells #[.int .i64 0, .int .i64 4095, .int .i64 0, .int .i64 1023, .int .i64 0, .int .i64 1, .int .i64 0, .int .i64 4294967295] 202)).alloc (.cells #[.slice (some ⟨w.heap.size, 0, none⟩) 4 4] 265) = w2 at *
  have HB := Lib.hid (And.intro hBnd hb2)
  clear hBnd hb2
  go_loopw [4, 13] (fun s4 s13 wr => ∃ k : Nat, k ≤ 4 ∧ s13 = .int .i64 k ∧ s4 = .bool true ∧ (List.range k).all (entB xs) = true ∧ Below w.heap.size w wr ∧ Bnd wr (.func (.func 168) #[] #[.pointer (some ⟨w.heap.size + 1, 0, none⟩)]) bndE) (fun _ s13 _ => 4 - (intOf s13).toNat)
  case atStart => exact ⟨0, by omega, rfl, rfl, by simp, HB.out.2, HB.out.1⟩
  case round =>
    obtain ⟨k, hk, rfl, rfl, hall, hb, hBn⟩ := hrel
    have HA := Lib.hid (And.intro hall (And.intro hb hBn))
    by_cases hlt : k < 4
    · have hnext : Hid (∀ b, entB xs k = b → (List.range (k + 1)).all (entB xs) = b) := fun b hb => by
        rw [List.range_succ, List.all_append, HA.out.1]; simp [hb]
      have hstop : Hid (entB xs k = false → entsB xs = false) := fun hb => by
        unfold entsB
        rw [← Bool.not_eq_true]
        intro e
        rw [List.all_eq_true] at e
        have := e k (by simp; omega)
        rw [hb] at this; cases this
      have hxl := H.out.2.1
      obtain ⟨x3, hx3⟩ : ∃ x3, xs.getD 3 0 = x3 := ⟨_, rfl⟩
      have c3 : wr.cell? ⟨g, o + 3, none⟩ = some (.int .i64 x3) := by
        have := ints_range (Below.range hb H.out.1) (i := 3) (by omega)
        rw [this, ← hx3]
        simp [List.getD_eq_getElem?_getD, show 3 < xs.length by omega]
      have b1 : (0 : Int) ≤ (k : Int) := by omega
      have b2 : (k : Int) < 4 := by omega
      have hcc := H.out.2.2.1
      have hcm := H.out.2.2.2
      unfold maxLen at hcm
      have hrl : Hid ((rowI xs k).length = 4) := rowI_len hxl hlt
      have hsz : (Tryz.prog.info? 354).map (·.size) = some (ints (rowI xs k)).length := by rw [ints, List.length_map, hrl.out]; exact infoEy
      have h1 := ints_one (rowI xs k)
      have hRow := Lib.hid (row_any (Below.range hb H.out.1) hxl hcc H.out.2.2.2 k hlt)
      have HS := Lib.hid (And.intro hsz h1)
      have hent : Hid (entB xs k = if (k : Int) < x3 then withinB bndE (rowI xs k) else decide (rowI xs k = [0, 0, 0, 0])) := by show _ = _; rw [entB, hx3]
      clear hx3 hall hb hBn hxl hsz h1
      by_cases h3 : (k : Int) < x3
      · have q3 : decide ((k : Int) < x3) = true := by simpa using h3
        have hent2 : Hid (entB xs k = withinB bndE (rowI xs k)) := by show _ = _; rw [hent.out, if_pos h3]
        clear hent h3
        obtain ⟨bb, hbb⟩ : ∃ bb, withinB bndE (rowI xs k) = bb := ⟨_, rfl⟩
        have HBB := Lib.hid hbb
        cases bb
        all_goals
          clear hbb
          go_wp2_with fail
          refine hRow.out.mono ?_
          rintro e wa ⟨rfl, hba⟩
          have hra : (wa.alloc (.cells (ints (rowI xs k)).toArray 354)).rangeAt wa.heap.size 0 (ints (rowI xs k)) := range_of_block (heap_alloc_last wa _ rfl)
          have hua : Upd (fun _ => False) wr (wa.alloc (.cells (ints (rowI xs k)).toArray 354)) := (Upd.of_below hba).alloc _
          have hBa := HA.out.2.2.below (Upd.below hua)
          have c3a := hua.cellv c3 (fun h => h)
          have hbw : Below w.heap.size w (wa.alloc (.cells (ints (rowI xs k)).toArray 354)) := HA.out.2.1.trans ((Upd.below hua).mono HA.out.2.1.size)
          have HW := Lib.hid (And.intro hra (And.intro hBa hbw))
          clear hra hua hBa hbw hba
          go_wp2_with (first
            | (refine wpList_store_new rfl _ _ _ rfl _ _ _ rfl rfl (by rw [ints, List.length_map, hrl.out]; rfl) HS.out.1 HS.out.2 ?_)
            | fail)
          obtain ⟨gB, hB', cB, hvB, hcB, hrB⟩ := HW.out.2.1
          injection hvB with _ _ hvB
          injection hvB with hvB
          injection hvB with hvB
          injection hvB with hvB
          injection hvB with hvB
          injection hvB with hvB
          subst hvB
          refine (within_any bndE (rowI xs k) hcB hrB HW.out.1 hrl.out (by show 4 ≤ 4; decide) (by decide)).mono ?_
          rw [HBB.out]
          rintro e wb ⟨rfl, hbb⟩
          have hbw : Below w.heap.size w wb := HW.out.2.2.trans (hbb.mono HW.out.2.2.size)
          have hBb := HW.out.2.1.below hbb
          have HV := Lib.hid (And.intro hbw hBb)
          clear hbw hBb hbb hcB hrB
          go_wp2
        · rw [Exit.noGoto_ret]
          go_ret
          exact ⟨by rw [hstop.out (by rw [hent2.out, HBB.out])]; rfl, HV.out.1⟩
        · go_roundw
          case rel => exact ⟨k + 1, by omega, by go_num, rfl, hnext.out true (by rw [hent2.out, HBB.out]), HV.out.1, HV.out.2⟩
          case measure => simp [intOf]; omega
      · have q3 : decide ((k : Int) < x3) = false := by simpa using h3
        have hent2 : Hid (entB xs k = (rowI xs k == [0, 0, 0, 0])) := by show _ = _; rw [hent.out, if_neg h3]; exact (Bool.beq_eq_decide_eq _ _).symm
        clear hent h3
        obtain ⟨bb, hbb⟩ : ∃ bb, (rowI xs k == [0, 0, 0, 0]) = bb := ⟨_, rfl⟩
        have HBB := Lib.hid hbb
        have heq : ∀ w, (binOp .eql 354 (.agg (ints (rowI xs k)).toArray) (.agg #[.int .i64 0, .int .i64 0, .int .i64 0, .int .i64 0])).run Tryz.prog w = .ok (.bool bb) w := fun w => by
          obtain ⟨i, hi, hs⟩ := Option.map_eq_some_iff.1 infoIn1
          simp only [Prod.mk.injEq] at hs
          rw [← hbb]
          exact run_eql_ints w 354 3 4 Tryz.underlying354 Tryz.underlying3 (fun w => by simp [sizeOf, typeInfo, hi, hs.2.1]) (rowI xs k) [0, 0, 0, 0] hrl.out rfl
        cases bb
        all_goals
          clear hbb
          go_wp2_with fail
          refine hRow.out.mono ?_
          rintro e wa ⟨rfl, hba⟩
          have hra : (wa.alloc (.cells (ints (rowI xs k)).toArray 354)).rangeAt wa.heap.size 0 (ints (rowI xs k)) := range_of_block (heap_alloc_last wa _ rfl)
          have hua : Upd (fun _ => False) wr (wa.alloc (.cells (ints (rowI xs k)).toArray 354)) := (Upd.of_below hba).alloc _
          have hBa := HA.out.2.2.below (Upd.below hua)
          have c3a := hua.cellv c3 (fun h => h)
          have hbw : Below w.heap.size w (wa.alloc (.cells (ints (rowI xs k)).toArray 354)) := HA.out.2.1.trans ((Upd.below hua).mono HA.out.2.1.size)
          have HW := Lib.hid (And.intro hra (And.intro hBa hbw))
          clear hua hBa hbw hba
          go_wp2_with (first
            | (refine wpList_store_new rfl _ _ _ rfl _ _ _ rfl rfl (by rw [ints, List.length_map, hrl.out]; rfl) HS.out.1 HS.out.2 ?_)
            | (refine wpList_load_mid rfl _ _ rfl _ _ rfl _ _ hra Tryz.underlying354 rfl HS.out.1 ?_)
            | fail)
        · rw [Exit.noGoto_ret]
          go_ret
          exact ⟨by rw [hstop.out (by rw [hent2.out, HBB.out])]; rfl, HW.out.2.2⟩
        · go_roundw
          case rel => exact ⟨k + 1, by omega, by go_num, rfl, hnext.out true (by rw [hent2.out, HBB.out]), HW.out.2.2, HW.out.2.1⟩
          case measure => simp [intOf]; omega
    · obtain rfl : k = 4 := by omega
      have hE : Hid (entsB xs = true) := hall
      have HZ := Lib.hid hb
      clear hall hb hBn
      go_wp2
      rw [Exit.noGoto_ret]
      go_ret
      exact ⟨by rw [hE.out]; rfl, HZ.out⟩
set_option maxRecDepth 100000 in
set_option maxHeartbeats 2000000 in
theorem mayP_any {w : World} {gl ol cl gt : Nat} {v : Value} (xs : List Int) (hxl : xs.length = 20) (hcl : 20 ≤ cl) (hcm : cl ≤ maxLen) (hv : w.cell? ⟨gt, 0, none⟩ = some v) (hB : Bnd w v bndP) (hx : w.rangeAt gl ol (ints xs)) :
    Calls Tryz.prog 256 #[.slice (some ⟨gl, ol, none⟩) 20 cl, .pointer (some ⟨gt, 0, none⟩)] w fun e w' => e = .returned (.bool (mayP xs)) ∧ Below w.heap.size w w' := by
  obtain ⟨g, h, cc, rfl, hc, hr⟩ := hB
  obtain ⟨x1, hx1⟩ : ∃ x1, xs.getD 1 0 = x1 := ⟨_, rfl⟩
  obtain ⟨x2, hx2⟩ : ∃ x2, xs.getD 2 0 = x2 := ⟨_, rfl⟩
  have c1 : w.cell? ⟨gl, ol + 1, none⟩ = some (.int .i64 x1) := by
    rw [ints_range hx (i := 1) (by omega), ← hx1]; simp [List.getD_eq_getElem?_getD, show 1 < xs.length by omega]
  have c2 : w.cell? ⟨gl, ol + 2, none⟩ = some (.int .i64 x2) := by
    rw [ints_range hx (i := 2) (by omega), ← hx2]; simp [List.getD_eq_getElem?_getD, show 2 < xs.length by omega]
  have hud : Upd (fun _ => False) w w.drew := (Upd.refl _ _).drew
  have HX := Lib.hid (And.intro (hud.range hx (fun h => h)) (And.intro (hud.cellv hc (fun h => h)) (And.intro (hud.range hr (fun h => h)) (And.intro hxl (And.intro hcl hcm)))))
  have HM : Hid (mayP xs = (withinB bndP xs && decide (x1 < x2) && entsB xs)) := by show _ = _; rw [mayP, hx1, hx2]
  clear hx hr hc hud hx1 hx2 hxl hcm
  obtain ⟨wb, hw⟩ : ∃ wb, withinB bndP xs = wb := ⟨_, rfl⟩
  have HW := Lib.hid hw
  cases wb
  · rw [hw] at HM
    clear hw
    go_enter Tryz.func256, Tryz.ntmps256
    go_wp2
    refine wp_region_held_drew (S := fun W => W.cell? ⟨gt, 0, none⟩ = some (.func (.func 168) #[] #[.pointer (some ⟨g, 0, none⟩)]) ∧ W.cell? ⟨gl, ol + 1, none⟩ = some (.int .i64 x1) ∧ W.cell? ⟨gl, ol + 2, none⟩ = some (.int .i64 x2)) (by kernel_rfl) (by (simp only [World.cell?_drew]); exact ⟨hv, c1, c2⟩) (fun hHeld => ?_)
    refine wpAnyH_take (i := 0) (v := ?_) rfl (by kernel_rfl) (by kernel_rfl) (by kernel_rfl) (fun _ _ _ h => h) (Or.inl ⟨by rfl, ?_⟩) hHeld ?_
    rotate_left
    · intro W hSw; (try dsimp only at hSw); (try go_split_ands); go_simp; (try with_reducible rfl)
    simp only [List.getElem_toArray, List.getElem_cons_zero, Act.put, List.setIfInBounds_toArray, List.set_cons_zero, List.set_cons_succ]
    refine wpAnyH_take (i := 1) (v := ?_) rfl (by kernel_rfl) (by kernel_rfl) (by kernel_rfl) (fun _ _ _ h => h) (Or.inl ⟨by rfl, ?_⟩) hHeld ?_
    rotate_left
    · intro W hSw; (try dsimp only at hSw); (try go_split_ands); go_simp; (try with_reducible rfl)
    simp only [List.getElem_toArray, List.getElem_cons_succ, List.getElem_cons_zero, Act.put, List.setIfInBounds_toArray, List.set_cons_zero, List.set_cons_succ]
    refine wpAnyH_ready (rs := [2]) (by kernel_rfl) (by simp) ?_
    refine AllReadyH.cons rfl (fun K hK => ?_) AllReadyH.nil
    go_simp
    refine (within_any bndP xs HX.out.2.1 HX.out.2.2.1 HX.out.1 HX.out.2.2.2.1 (by show 4 ≤ 20; decide) (by decide)).mono ?_
    rw [HW.out]
    rintro e w' ⟨rfl, hb⟩
    refine hK.out _ _ (have hU := Upd.of_below (S := fun _ => False) hb; ⟨hU.cellv hHeld.1 (fun h => h), hU.cellv hHeld.2.1 (fun h => h), hU.cellv hHeld.2.2 (fun h => h)⟩) (fun hH1 => ?_)
    clear hK K
    refine wpAnyH_take (i := 3) (v := ?_) rfl (by kernel_rfl) (by kernel_rfl) (by kernel_rfl) (fun _ _ _ h => h) (Or.inl ⟨by rfl, ?_⟩) hH1 ?_
    rotate_left
    · intro W hSw; (try dsimp only at hSw); (try go_split_ands); go_simp; (try with_reducible rfl)
    simp only [List.getElem_toArray, List.getElem_cons_succ, List.getElem_cons_zero, Act.put, List.setIfInBounds_toArray, List.set_cons_zero, List.set_cons_succ]
    refine' wpAnyH_take (i := 4) rfl (by kernel_rfl) (by kernel_rfl) (by kernel_rfl) (fun _ _ _ h => h) (Or.inr ⟨by rfl, rfl⟩) hH1 _
    simp only [List.getElem_toArray, List.getElem_cons_succ, List.getElem_cons_zero, Act.put, List.setIfInBounds_toArray, List.set_cons_zero, List.set_cons_succ]
    refine' wpAnyH_take (i := 5) rfl (by kernel_rfl) (by kernel_rfl) (by kernel_rfl) (fun _ _ _ h => h) (Or.inr ⟨by rfl, rfl⟩) hH1 _
    simp only [List.getElem_toArray, List.getElem_cons_succ, List.getElem_cons_zero, Act.put, List.setIfInBounds_toArray, List.set_cons_zero, List.set_cons_succ]
    refine' wpAnyH_take (i := 6) rfl (by kernel_rfl) (by kernel_rfl) (by kernel_rfl) (fun _ _ _ h => h) (Or.inr ⟨by rfl, rfl⟩) hH1 _
    simp only [List.getElem_toArray, List.getElem_cons_succ, List.getElem_cons_zero, Act.put, List.setIfInBounds_toArray, List.set_cons_zero, List.set_cons_succ]
    refine' wpAnyH_take (i := 7) rfl (by kernel_rfl) (by kernel_rfl) (by kernel_rfl) (fun _ _ _ h => h) (Or.inr ⟨by rfl, rfl⟩) hH1 _
    simp only [List.getElem_toArray, List.getElem_cons_succ, List.getElem_cons_zero, Act.put, List.setIfInBounds_toArray, List.set_cons_zero, List.set_cons_succ]
    refine' wpAnyH_take (i := 8) rfl (by kernel_rfl) (by kernel_rfl) (by kernel_rfl) (fun _ _ _ h => h) (Or.inr ⟨by rfl, rfl⟩) hH1 _
    simp only [List.getElem_toArray, List.getElem_cons_succ, List.getElem_cons_zero, Act.put, List.setIfInBounds_toArray, List.set_cons_zero, List.set_cons_succ]
    refine' wpAnyH_take (i := 9) rfl (by kernel_rfl) (by kernel_rfl) (by kernel_rfl) (fun _ _ _ h => h) (Or.inr ⟨by rfl, rfl⟩) hH1 _
    simp only [List.getElem_toArray, List.getElem_cons_succ, List.getElem_cons_zero, Act.put, List.setIfInBounds_toArray, List.set_cons_zero, List.set_cons_succ]
    refine' wpAnyH_take (i := 10) rfl (by kernel_rfl) (by kernel_rfl) (by kernel_rfl) (fun _ _ _ h => h) (Or.inr ⟨by rfl, rfl⟩) hH1 _
    simp only [List.getElem_toArray, List.getElem_cons_succ, List.getElem_cons_zero, Act.put, List.setIfInBounds_toArray, List.set_cons_zero, List.set_cons_succ]
    refine wpAnyH_ready (rs := [11]) (by kernel_rfl) (by simp) ?_
    refine AllReadyH.cons rfl (fun K hK => ?_) AllReadyH.nil
    go_simp
    refine hK.out _ _ (hH1) (fun hH2 => ?_)
    clear hK K
    refine wpAnyH_take (i := 12) (v := ?_) rfl (by kernel_rfl) (by kernel_rfl) (by kernel_rfl) (fun _ _ _ h => h) (Or.inl ⟨by rfl, ?_⟩) hH2 ?_
    rotate_left
    · intro W hSw; (try dsimp only at hSw); (try go_split_ands); go_simp; (try with_reducible rfl)
    simp only [List.getElem_toArray, List.getElem_cons_succ, List.getElem_cons_zero, Act.put, List.setIfInBounds_toArray, List.set_cons_zero, List.set_cons_succ]
    refine' wpAnyH_take (i := 13) rfl (by kernel_rfl) (by kernel_rfl) (by kernel_rfl) (fun _ _ _ h => h) (Or.inr ⟨by rfl, rfl⟩) hH2 _
    simp only [List.getElem_toArray, List.getElem_cons_succ, List.getElem_cons_zero, Act.put, List.setIfInBounds_toArray, List.set_cons_zero, List.set_cons_succ]
    refine' wpAnyH_take (i := 14) rfl (by kernel_rfl) (by kernel_rfl) (by kernel_rfl) (fun _ _ _ h => h) (Or.inr ⟨by rfl, rfl⟩) hH2 _
    simp only [List.getElem_toArray, List.getElem_cons_succ, List.getElem_cons_zero, Act.put, List.setIfInBounds_toArray, List.set_cons_zero, List.set_cons_succ]
    refine wpAnyH_ready (rs := [15]) (by kernel_rfl) (by simp) ?_
    refine AllReadyH.cons rfl (fun K hK => ?_) AllReadyH.nil
    go_simp
    refine hK.out _ _ (hH2) (fun hH3 => ?_)
    clear hK K
    refine wpAnyH_ready (rs := [16]) (by kernel_rfl) (by simp) ?_
    refine AllReadyH.cons rfl (fun K hK => ?_) AllReadyH.nil
    go_simp
    refine hK.out _ _ (hH3) (fun hH4 => ?_)
    clear hK K
    refine wpAnyH_done (by kernel_rfl) ?_ _
    have HB2 : Hid (Below w.heap.size w w') := bundrew' hb
    clear hb
    go_wp2
    go_ret
    exact ⟨by rw [HM.out]; rfl, HB2.out⟩
  · rw [hw] at HM
    clear hw
    by_cases h12 : x1 < x2
    · have q12 : decide (x1 < x2) = true := by simpa using h12
      rw [q12] at HM
      clear h12
      obtain ⟨eb, he⟩ : ∃ eb, entsB xs = eb := ⟨_, rfl⟩
      have HE := Lib.hid he
      rw [he] at HM
      clear he
      go_enter Tryz.func256, Tryz.ntmps256
      go_wp2
      refine wp_region_held_drew (S := fun W => W.cell? ⟨gt, 0, none⟩ = some (.func (.func 168) #[] #[.pointer (some ⟨g, 0, none⟩)]) ∧ W.cell? ⟨gl, ol + 1, none⟩ = some (.int .i64 x1) ∧ W.cell? ⟨gl, ol + 2, none⟩ = some (.int .i64 x2)) (by kernel_rfl) (by (simp only [World.cell?_drew]); exact ⟨hv, c1, c2⟩) (fun hHeld => ?_)
      refine wpAnyH_take (i := 0) (v := ?_) rfl (by kernel_rfl) (by kernel_rfl) (by kernel_rfl) (fun _ _ _ h => h) (Or.inl ⟨by rfl, ?_⟩) hHeld ?_
      rotate_left
      · intro W hSw; (try dsimp only at hSw); (try go_split_ands); go_simp; (try with_reducible rfl)
      simp only [List.getElem_toArray, List.getElem_cons_zero, Act.put, List.setIfInBounds_toArray, List.set_cons_zero, List.set_cons_succ]
      refine wpAnyH_take (i := 1) (v := ?_) rfl (by kernel_rfl) (by kernel_rfl) (by kernel_rfl) (fun _ _ _ h => h) (Or.inl ⟨by rfl, ?_⟩) hHeld ?_
      rotate_left
      · intro W hSw; (try dsimp only at hSw); (try go_split_ands); go_simp; (try with_reducible rfl)
      simp only [List.getElem_toArray, List.getElem_cons_succ, List.getElem_cons_zero, Act.put, List.setIfInBounds_toArray, List.set_cons_zero, List.set_cons_succ]
      refine wpAnyH_ready (rs := [2]) (by kernel_rfl) (by simp) ?_
      refine AllReadyH.cons rfl (fun K hK => ?_) AllReadyH.nil
      go_simp
      refine (within_any bndP xs HX.out.2.1 HX.out.2.2.1 HX.out.1 HX.out.2.2.2.1 (by show 4 ≤ 20; decide) (by decide)).mono ?_
      rw [HW.out]
      rintro e w' ⟨rfl, hb⟩
      refine hK.out _ _ (have hU := Upd.of_below (S := fun _ => False) hb; ⟨hU.cellv hHeld.1 (fun h => h), hU.cellv hHeld.2.1 (fun h => h), hU.cellv hHeld.2.2 (fun h => h)⟩) (fun hH1 => ?_)
      clear hK K
      refine wpAnyH_take (i := 3) (v := ?_) rfl (by kernel_rfl) (by kernel_rfl) (by kernel_rfl) (fun _ _ _ h => h) (Or.inl ⟨by rfl, ?_⟩) hH1 ?_
      rotate_left
      · intro W hSw; (try dsimp only at hSw); (try go_split_ands); go_simp; (try with_reducible rfl)
      simp only [List.getElem_toArray, List.getElem_cons_succ, List.getElem_cons_zero, Act.put, List.setIfInBounds_toArray, List.set_cons_zero, List.set_cons_succ]
      refine wpAnyH_take (i := 4) (v := ?_) rfl (by kernel_rfl) (by kernel_rfl) (by kernel_rfl) (fun _ _ _ h => h) (Or.inl ⟨by rfl, ?_⟩) hH1 ?_
      rotate_left
      · intro W hSw; (try dsimp only at hSw); (try go_split_ands); go_simp; (try with_reducible rfl)
      simp only [List.getElem_toArray, List.getElem_cons_succ, List.getElem_cons_zero, Act.put, List.setIfInBounds_toArray, List.set_cons_zero, List.set_cons_succ]
      refine wpAnyH_take (i := 5) (v := ?_) rfl (by kernel_rfl) (by kernel_rfl) (by kernel_rfl) (fun _ _ _ h => h) (Or.inl ⟨by rfl, ?_⟩) hH1 ?_
      rotate_left
      · intro W hSw; (try dsimp only at hSw); (try go_split_ands); go_simp; (try with_reducible rfl)
      simp only [List.getElem_toArray, List.getElem_cons_succ, List.getElem_cons_zero, Act.put, List.setIfInBounds_toArray, List.set_cons_zero, List.set_cons_succ]
      refine wpAnyH_take (i := 6) (v := ?_) rfl (by kernel_rfl) (by kernel_rfl) (by kernel_rfl) (fun _ _ _ h => h) (Or.inl ⟨by rfl, ?_⟩) hH1 ?_
      rotate_left
      · intro W hSw; (try dsimp only at hSw); (try go_split_ands); go_simp; (try with_reducible rfl)
      simp only [List.getElem_toArray, List.getElem_cons_succ, List.getElem_cons_zero, Act.put, List.setIfInBounds_toArray, List.set_cons_zero, List.set_cons_succ]
      refine wpAnyH_take (i := 7) (v := ?_) rfl (by kernel_rfl) (by kernel_rfl) (by kernel_rfl) (fun _ _ _ h => h) (Or.inl ⟨by rfl, ?_⟩) hH1 ?_
      rotate_left
      · intro W hSw; (try dsimp only at hSw); (try go_split_ands); go_simp; (try with_reducible rfl)
      simp only [List.getElem_toArray, List.getElem_cons_succ, List.getElem_cons_zero, Act.put, List.setIfInBounds_toArray, List.set_cons_zero, List.set_cons_succ]
      refine wpAnyH_take (i := 8) (v := ?_) rfl (by kernel_rfl) (by kernel_rfl) (by kernel_rfl) (fun _ _ _ h => h) (Or.inl ⟨by rfl, ?_⟩) hH1 ?_
      rotate_left
      · intro W hSw; (try dsimp only at hSw); (try go_split_ands); go_simp; (try with_reducible rfl)
      simp only [List.getElem_toArray, List.getElem_cons_succ, List.getElem_cons_zero, Act.put, List.setIfInBounds_toArray, List.set_cons_zero, List.set_cons_succ]
      refine wpAnyH_take (i := 9) (v := ?_) rfl (by kernel_rfl) (by kernel_rfl) (by kernel_rfl) (fun _ _ _ h => h) (Or.inl ⟨by rfl, ?_⟩) hH1 ?_
      rotate_left
      · intro W hSw; (try dsimp only at hSw); (try go_split_ands); go_simp; (try with_reducible rfl)
      simp only [List.getElem_toArray, List.getElem_cons_succ, List.getElem_cons_zero, Act.put, List.setIfInBounds_toArray, List.set_cons_zero, List.set_cons_succ]
      refine wpAnyH_take (i := 10) (v := ?_) rfl (by kernel_rfl) (by kernel_rfl) (by kernel_rfl) (fun _ _ _ h => h) (Or.inl ⟨by rfl, ?_⟩) hH1 ?_
      rotate_left
      · intro W hSw; (try dsimp only at hSw); (try go_split_ands); go_simp; (try with_reducible rfl)
      simp only [List.getElem_toArray, List.getElem_cons_succ, List.getElem_cons_zero, Act.put, List.setIfInBounds_toArray, List.set_cons_zero, List.set_cons_succ]
      refine wpAnyH_ready (rs := [11]) (by kernel_rfl) (by simp) ?_
      refine AllReadyH.cons rfl (fun K hK => ?_) AllReadyH.nil
      go_simp
      refine hK.out _ _ (hH1) (fun hH2 => ?_)
      clear hK K
      refine wpAnyH_take (i := 12) (v := ?_) rfl (by kernel_rfl) (by kernel_rfl) (by kernel_rfl) (fun _ _ _ h => h) (Or.inl ⟨by rfl, ?_⟩) hH2 ?_
      rotate_left
      · intro W hSw; (try dsimp only at hSw); (try go_split_ands); go_simp; (try with_reducible rfl)
      simp only [List.getElem_toArray, List.getElem_cons_succ, List.getElem_cons_zero, Act.put, List.setIfInBounds_toArray, List.set_cons_zero, List.set_cons_succ]
      refine wpAnyH_take (i := 13) (v := ?_) rfl (by kernel_rfl) (by kernel_rfl) (by kernel_rfl) (fun _ _ _ h => h) (Or.inl ⟨by rfl, ?_⟩) hH2 ?_
      rotate_left
      · intro W hSw; (try dsimp only at hSw); (try go_split_ands); go_simp; (try with_reducible rfl)
      simp only [List.getElem_toArray, List.getElem_cons_succ, List.getElem_cons_zero, Act.put, List.setIfInBounds_toArray, List.set_cons_zero, List.set_cons_succ]
      refine wpAnyH_ready (rs := [14]) (by kernel_rfl) (by simp) ?_
      refine AllReadyH.cons rfl (fun K hK => ?_) AllReadyH.nil
      go_simp
      refine (ents_any (Below.range hb HX.out.1) HX.out.2.2.2.1 HX.out.2.2.2.2.1 HX.out.2.2.2.2.2).mono ?_
      rw [HE.out]
      rintro e w'' ⟨rfl, hb2⟩
      refine hK.out _ _ (have hU := Upd.of_below (S := fun _ => False) hb2; ⟨hU.cellv hH2.1 (fun h => h), hU.cellv hH2.2.1 (fun h => h), hU.cellv hH2.2.2 (fun h => h)⟩) (fun hH3 => ?_)
      clear hK K
      refine wpAnyH_ready (rs := [15]) (by kernel_rfl) (by simp) ?_
      refine AllReadyH.cons rfl (fun K hK => ?_) AllReadyH.nil
      go_simp
      refine hK.out _ _ (hH3) (fun hH4 => ?_)
      clear hK K
      refine wpAnyH_ready (rs := [16]) (by kernel_rfl) (by simp) ?_
      refine AllReadyH.cons rfl (fun K hK => ?_) AllReadyH.nil
      go_simp
      refine hK.out _ _ (hH4) (fun hH5 => ?_)
      clear hK K
      refine wpAnyH_done (by kernel_rfl) ?_ _
      have HB2 : Hid (Below w.heap.size w w'') := bundrew' (hb.trans (hb2.mono hb.size))
      clear hb hb2
      go_wp2
      go_ret
      exact ⟨by rw [HM.out]; cases eb <;> rfl, HB2.out⟩
    · have q12 : decide (x1 < x2) = false := by simpa using h12
      rw [q12] at HM
      clear h12
      go_enter Tryz.func256, Tryz.ntmps256
      go_wp2
      refine wp_region_held_drew (S := fun W => W.cell? ⟨gt, 0, none⟩ = some (.func (.func 168) #[] #[.pointer (some ⟨g, 0, none⟩)]) ∧ W.cell? ⟨gl, ol + 1, none⟩ = some (.int .i64 x1) ∧ W.cell? ⟨gl, ol + 2, none⟩ = some (.int .i64 x2)) (by kernel_rfl) (by (simp only [World.cell?_drew]); exact ⟨hv, c1, c2⟩) (fun hHeld => ?_)
      refine wpAnyH_take (i := 0) (v := ?_) rfl (by kernel_rfl) (by kernel_rfl) (by kernel_rfl) (fun _ _ _ h => h) (Or.inl ⟨by rfl, ?_⟩) hHeld ?_
      rotate_left
      · intro W hSw; (try dsimp only at hSw); (try go_split_ands); go_simp; (try with_reducible rfl)
      simp only [List.getElem_toArray, List.getElem_cons_zero, Act.put, List.setIfInBounds_toArray, List.set_cons_zero, List.set_cons_succ]
      refine wpAnyH_take (i := 1) (v := ?_) rfl (by kernel_rfl) (by kernel_rfl) (by kernel_rfl) (fun _ _ _ h => h) (Or.inl ⟨by rfl, ?_⟩) hHeld ?_
      rotate_left
      · intro W hSw; (try dsimp only at hSw); (try go_split_ands); go_simp; (try with_reducible rfl)
      simp only [List.getElem_toArray, List.getElem_cons_succ, List.getElem_cons_zero, Act.put, List.setIfInBounds_toArray, List.set_cons_zero, List.set_cons_succ]
      refine wpAnyH_ready (rs := [2]) (by kernel_rfl) (by simp) ?_
      refine AllReadyH.cons rfl (fun K hK => ?_) AllReadyH.nil
      go_simp
      refine (within_any bndP xs HX.out.2.1 HX.out.2.2.1 HX.out.1 HX.out.2.2.2.1 (by show 4 ≤ 20; decide) (by decide)).mono ?_
      rw [HW.out]
      rintro e w' ⟨rfl, hb⟩
      refine hK.out _ _ (have hU := Upd.of_below (S := fun _ => False) hb; ⟨hU.cellv hHeld.1 (fun h => h), hU.cellv hHeld.2.1 (fun h => h), hU.cellv hHeld.2.2 (fun h => h)⟩) (fun hH1 => ?_)
      clear hK K
      refine wpAnyH_take (i := 3) (v := ?_) rfl (by kernel_rfl) (by kernel_rfl) (by kernel_rfl) (fun _ _ _ h => h) (Or.inl ⟨by rfl, ?_⟩) hH1 ?_
      rotate_left
      · intro W hSw; (try dsimp only at hSw); (try go_split_ands); go_simp; (try with_reducible rfl)
      simp only [List.getElem_toArray, List.getElem_cons_succ, List.getElem_cons_zero, Act.put, List.setIfInBounds_toArray, List.set_cons_zero, List.set_cons_succ]
      refine wpAnyH_take (i := 4) (v := ?_) rfl (by kernel_rfl) (by kernel_rfl) (by kernel_rfl) (fun _ _ _ h => h) (Or.inl ⟨by rfl, ?_⟩) hH1 ?_
      rotate_left
      · intro W hSw; (try dsimp only at hSw); (try go_split_ands); go_simp; (try with_reducible rfl)
      simp only [List.getElem_toArray, List.getElem_cons_succ, List.getElem_cons_zero, Act.put, List.setIfInBounds_toArray, List.set_cons_zero, List.set_cons_succ]
      refine wpAnyH_take (i := 5) (v := ?_) rfl (by kernel_rfl) (by kernel_rfl) (by kernel_rfl) (fun _ _ _ h => h) (Or.inl ⟨by rfl, ?_⟩) hH1 ?_
      rotate_left
      · intro W hSw; (try dsimp only at hSw); (try go_split_ands); go_simp; (try with_reducible rfl)
      simp only [List.getElem_toArray, List.getElem_cons_succ, List.getElem_cons_zero, Act.put, List.setIfInBounds_toArray, List.set_cons_zero, List.set_cons_succ]
      refine wpAnyH_take (i := 6) (v := ?_) rfl (by kernel_rfl) (by kernel_rfl) (by kernel_rfl) (fun _ _ _ h => h) (Or.inl ⟨by rfl, ?_⟩) hH1 ?_
      rotate_left
      · intro W hSw; (try dsimp only at hSw); (try go_split_ands); go_simp; (try with_reducible rfl)
      simp only [List.getElem_toArray, List.getElem_cons_succ, List.getElem_cons_zero, Act.put, List.setIfInBounds_toArray, List.set_cons_zero, List.set_cons_succ]
      refine wpAnyH_take (i := 7) (v := ?_) rfl (by kernel_rfl) (by kernel_rfl) (by kernel_rfl) (fun _ _ _ h => h) (Or.inl ⟨by rfl, ?_⟩) hH1 ?_
      rotate_left
      · intro W hSw; (try dsimp only at hSw); (try go_split_ands); go_simp; (try with_reducible rfl)
      simp only [List.getElem_toArray, List.getElem_cons_succ, List.getElem_cons_zero, Act.put, List.setIfInBounds_toArray, List.set_cons_zero, List.set_cons_succ]
      refine wpAnyH_take (i := 8) (v := ?_) rfl (by kernel_rfl) (by kernel_rfl) (by kernel_rfl) (fun _ _ _ h => h) (Or.inl ⟨by rfl, ?_⟩) hH1 ?_
      rotate_left
      · intro W hSw; (try dsimp only at hSw); (try go_split_ands); go_simp; (try with_reducible rfl)
      simp only [List.getElem_toArray, List.getElem_cons_succ, List.getElem_cons_zero, Act.put, List.setIfInBounds_toArray, List.set_cons_zero, List.set_cons_succ]
      refine wpAnyH_take (i := 9) (v := ?_) rfl (by kernel_rfl) (by kernel_rfl) (by kernel_rfl) (fun _ _ _ h => h) (Or.inl ⟨by rfl, ?_⟩) hH1 ?_
      rotate_left
      · intro W hSw; (try dsimp only at hSw); (try go_split_ands); go_simp; (try with_reducible rfl)
      simp only [List.getElem_toArray, List.getElem_cons_succ, List.getElem_cons_zero, Act.put, List.setIfInBounds_toArray, List.set_cons_zero, List.set_cons_succ]
      refine wpAnyH_take (i := 10) (v := ?_) rfl (by kernel_rfl) (by kernel_rfl) (by kernel_rfl) (fun _ _ _ h => h) (Or.inl ⟨by rfl, ?_⟩) hH1 ?_
      rotate_left
      · intro W hSw; (try dsimp only at hSw); (try go_split_ands); go_simp; (try with_reducible rfl)
      simp only [List.getElem_toArray, List.getElem_cons_succ, List.getElem_cons_zero, Act.put, List.setIfInBounds_toArray, List.set_cons_zero, List.set_cons_succ]
      refine wpAnyH_ready (rs := [11]) (by kernel_rfl) (by simp) ?_
      refine AllReadyH.cons rfl (fun K hK => ?_) AllReadyH.nil
      go_simp
      refine hK.out _ _ (hH1) (fun hH2 => ?_)
      clear hK K
      refine wpAnyH_take (i := 12) (v := ?_) rfl (by kernel_rfl) (by kernel_rfl) (by kernel_rfl) (fun _ _ _ h => h) (Or.inl ⟨by rfl, ?_⟩) hH2 ?_
      rotate_left
      · intro W hSw; (try dsimp only at hSw); (try go_split_ands); go_simp; (try with_reducible rfl)
      simp only [List.getElem_toArray, List.getElem_cons_succ, List.getElem_cons_zero, Act.put, List.setIfInBounds_toArray, List.set_cons_zero, List.set_cons_succ]
      refine' wpAnyH_take (i := 13) rfl (by kernel_rfl) (by kernel_rfl) (by kernel_rfl) (fun _ _ _ h => h) (Or.inr ⟨by rfl, rfl⟩) hH2 _
      simp only [List.getElem_toArray, List.getElem_cons_succ, List.getElem_cons_zero, Act.put, List.setIfInBounds_toArray, List.set_cons_zero, List.set_cons_succ]
      refine' wpAnyH_take (i := 14) rfl (by kernel_rfl) (by kernel_rfl) (by kernel_rfl) (fun _ _ _ h => h) (Or.inr ⟨by rfl, rfl⟩) hH2 _
      simp only [List.getElem_toArray, List.getElem_cons_succ, List.getElem_cons_zero, Act.put, List.setIfInBounds_toArray, List.set_cons_zero, List.set_cons_succ]
      refine wpAnyH_ready (rs := [15]) (by kernel_rfl) (by simp) ?_
      refine AllReadyH.cons rfl (fun K hK => ?_) AllReadyH.nil
      go_simp
      refine hK.out _ _ (hH2) (fun hH3 => ?_)
      clear hK K
      refine wpAnyH_ready (rs := [16]) (by kernel_rfl) (by simp) ?_
      refine AllReadyH.cons rfl (fun K hK => ?_) AllReadyH.nil
      go_simp
      refine hK.out _ _ (hH3) (fun hH4 => ?_)
      clear hK K
      refine wpAnyH_done (by kernel_rfl) ?_ _
      have HB2 : Hid (Below w.heap.size w w') := bundrew' hb
      clear hb
      go_wp2
      go_ret
      exact ⟨by rw [HM.out]; rfl, HB2.out⟩
theorem within_at {B : List (Int × Int)} {xs : List Int} (h : withinB B xs = true) {i : Nat} (hi : i < B.length) (hx : i < xs.length) : B[i].1 ≤ xs[i] ∧ xs[i] ≤ B[i].2 := by
  unfold withinB at h
  rw [List.all_eq_true] at h
  have := h (B[i], xs[i]) (by rw [List.mem_iff_getElem]; exact ⟨i, by simp; omega, by simp⟩)
  simpa [inB] using this
theorem mayP_fits {xs : List Int} (hx : xs.length = 20) (h : mayP xs = true) : (∀ x ∈ xs, 0 ≤ x) ∧ Fits (numL [6, 2, 2, 1, 2, 2, 1, 4, 2, 2, 1, 4, 2, 2, 1, 4, 2, 2, 1, 4] xs) := by
  simp only [mayP, Bool.and_eq_true] at h
  obtain ⟨⟨h1, h2⟩, h3⟩ := h
  have a0 := within_at h1 (i := 0) (by decide) (by omega)
  have a1 := within_at h1 (i := 1) (by decide) (by omega)
  have a2 := within_at h1 (i := 2) (by decide) (by omega)
  have a3 := within_at h1 (i := 3) (by decide) (by omega)
  simp [bndP] at a0 a1 a2 a3
  unfold entsB at h3
  rw [List.all_eq_true] at h3
  have hr : ∀ i (_ : i < 4), ∀ j (_ : j < 4), ∃ h : 4 + 4 * i + j < xs.length, 0 ≤ xs[4 + 4 * i + j] ∧ xs[4 + 4 * i + j] ≤ bndE[j]!.2 := by
    intro i hi j hj
    refine ⟨by omega, ?_⟩
    have hrow := h3 i (by simpa using hi)
    have hlen := rowI_len hx hi
    have e : (rowI xs i)[j]'(by omega) = xs[4 + 4 * i + j]'(by omega) := by simp [rowI]
    rw [← e]
    unfold entB at hrow
    split at hrow
    · have := within_at hrow (i := j) (by simpa [bndE] using hj) (by omega)
      rcases j with _ | _ | _ | _ | j
      all_goals first | omega | (simp [bndE] at this ⊢; omega)
    · simp at hrow
      have h0 : (rowI xs i)[j]'(by omega) = 0 := by
        simp only [hrow]
        rcases j with _ | _ | _ | _ | j
        all_goals first | omega | rfl
      rw [h0]
      rcases j with _ | _ | _ | _ | j
      all_goals first | omega | (simp [bndE])
  have hb : ∀ i (h1 : i < xs.length) (h2 : i < [6, 2, 2, 1, 2, 2, 1, 4, 2, 2, 1, 4, 2, 2, 1, 4, 2, 2, 1, 4].length), 0 ≤ xs[i] ∧ xs[i] < 256 ^ [6, 2, 2, 1, 2, 2, 1, 4, 2, 2, 1, 4, 2, 2, 1, 4, 2, 2, 1, 4][i] := by
    intro i hi hi2
    by_cases hi4 : i < 4
    · rcases i with _ | _ | _ | _ | i
      all_goals first | omega | (simp; omega)
    · obtain ⟨k, j, hk, hj, rfl⟩ : ∃ k j, k < 4 ∧ j < 4 ∧ i = 4 + 4 * k + j := ⟨(i - 4) / 4, (i - 4) % 4, by omega, by omega, by omega⟩
      obtain ⟨hh, r1, r2⟩ := hr k hk j hj
      refine ⟨r1, ?_⟩
      have hk' : k = 0 ∨ k = 1 ∨ k = 2 ∨ k = 3 := by omega
      have hj' : j = 0 ∨ j = 1 ∨ j = 2 ∨ j = 3 := by omega
      rcases hk' with rfl | rfl | rfl | rfl <;> rcases hj' with rfl | rfl | rfl | rfl <;> simp [bndE] at r2 ⊢ <;> omega
  refine ⟨fun x hx2 => ?_, numL_fits (by rw [hx]; rfl) (by decide) (by decide) hb⟩
  obtain ⟨i, hi, rfl⟩ := List.getElem_of_mem hx2
  exact (hb i hi (by simp; omega)).1
end Go.Proofs.YtnadilfobmgebaaGreatDoor
