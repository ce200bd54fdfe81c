/- A reader of a sector. Bounds of numbers; spans. Intents: their numbers, which may be, and the intent of numbers. The form of intents. Numbers, one behind the other, as bytes. An intent, as a sector. -/
import Derived.Test.YtnadilfobmgebaaGreatDoorG10
import Derived.BigQuiet
import Derived.Laws.EntriesVeiled
namespace Go.Proofs.YtnadilfobmgebaaGreatDoor
open Go Go.RowKit
def RdAt (w : World) (g : Nat) (b : Bk) (at_ : Nat) : Prop :=
  b.length = 64 ∧ at_ ≤ 60 ∧ w.heap[g]? = some (.cells (bkC b ++ [Value.int .i64 (at_ : Int), Value.int .i64 0]).toArray 263 (0, 0))
section
variable {w w' : World} {g at_ : Nat} {b : Bk}
theorem RdAt.lt (h : RdAt w g b at_) : g < w.heap.size := lt_of_block h.2.2
theorem RdAt.keep (h : RdAt w g b at_) {S : Nat → Prop} (hu : Upd S w w') (hs : ¬ S g) : RdAt w' g b at_ := ⟨h.1, h.2.1, (hu.block g h.lt hs).trans h.2.2⟩
theorem RdAt.len (h : RdAt w g b at_) : (bkC b).length = 64 := by rw [bkC_len, h.1]
theorem RdAt.c64 (h : RdAt w g b at_) : w.cell? ⟨g, 64, none⟩ = some (.int .i64 (at_ : Int)) := by
  rw [cell_of_block h.2.2, List.getElem?_toArray, List.getElem?_append_right (by rw [h.len]; omega), h.len]; rfl
theorem RdAt.c65 (h : RdAt w g b at_) : w.cell? ⟨g, 65, none⟩ = some (.int .i64 0) := by
  rw [cell_of_block h.2.2, List.getElem?_toArray, List.getElem?_append_right (by rw [h.len]; omega), h.len]; rfl
theorem RdAt.fz (h : RdAt w g b at_) (i : Nat) : w.frozen? ⟨g, i, none⟩ = false := frozen_of_block h.2.2 i
theorem RdAt.set65 (h : RdAt w g b at_) : RdAt (w.setCell ⟨g, 65, none⟩ (.int .i64 0)) g b at_ := by
  refine ⟨h.1, h.2.1, ?_⟩
  rw [heap_setCell_same h.2.2 65 (.int .i64 0)]
  congr 2
  rw [List.setIfInBounds_toArray, List.set_append_right _ _ (by rw [h.len]; omega), h.len]
  rfl
end
def endB (b : Bk) (at_ : Nat) : Bool := ((b.drop at_).take (60 - at_)).all (· == 0)
def bndC (B : List (Int × Int)) : List Value := B.flatMap fun p => [.int .i64 p.1, .int .i64 p.2]
theorem bndC_at {B : List (Int × Int)} {i : Nat} (hi : i < B.length) : (bndC B)[i * 2]? = some (.int .i64 B[i].1) ∧ (bndC B)[i * 2 + 1]? = some (.int .i64 B[i].2) := by
  induction B generalizing i with
  | nil => simp at hi
  | cons p B ih =>
    cases i with
    | zero => exact ⟨rfl, rfl⟩
    | succ i =>
      have := ih (i := i) (by simpa using hi)
      rw [show (i + 1) * 2 = i * 2 + 2 by omega]
      exact this
def inB (p : Int × Int) (x : Int) : Bool := decide (p.1 ≤ x) && decide (x ≤ p.2)
def withinB (B : List (Int × Int)) (xs : List Int) : Bool := (B.zip xs).all fun q => inB q.1 q.2
def Bnd (w : World) (v : Value) (B : List (Int × Int)) : Prop :=
  ∃ g h c, v = .func (.func 168) #[] #[.pointer (some ⟨g, 0, none⟩)] ∧ w.cell? ⟨g, 0, none⟩ = some (.slice (some ⟨h, 0, none⟩) B.length c) ∧ w.rangeAt h 0 (bndC B)
theorem Bnd.below {w w' : World} {v : Value} {B : List (Int × Int)} (h : Bnd w v B) (hb : Below w.heap.size w w') : Bnd w' v B := by
  obtain ⟨g, k, c, hv, hc, hr⟩ := h
  exact ⟨g, k, c, hv, (Upd.of_below (S := fun _ => False) hb).cellv hc (fun h => h), Below.range hb hr⟩
theorem ints_range {w : World} {g o : Nat} {xs : List Int} (h : w.rangeAt g o (ints xs)) {i : Nat} (hi : i < xs.length) : w.cell? ⟨g, o + i, none⟩ = some (.int .i64 xs[i]) := h i _ (get_ints hi)
theorem all_false_at {α : Type} {l : List α} {p : α → Bool} {k : Nat} (hk : k < l.length) (h : p l[k] = false) : l.all p = false := by
  rw [← Bool.not_eq_true]
  intro e
  rw [List.all_eq_true] at e
  have := e _ (List.getElem_mem hk)
  rw [h] at this; cases this
theorem within_ok {w : World} {h n c : Nat} : Calls Tryz.prog 115 #[.slice (some ⟨h, 0, none⟩) n c] w fun e w' => e = .returned (.func (.func 168) #[] #[.pointer (some ⟨w.heap.size, 0, none⟩)]) ∧ w' = w.alloc (.cells #[.slice (some ⟨h, 0, none⟩) n c] 265) := by
  have hmf : ∀ (fn : Fn) (first cap : Array Value) (w : World), (Instr.makeFunc fn first cap).run Tryz.prog w = .ok (.func fn first cap) w := fun _ _ _ _ => rfl
  go_enter Tryz.func115, Tryz.ntmps115
  go_wp2
  go_ret
  exact ⟨rfl, rfl⟩
theorem Bnd.made {w : World} {h c : Nat} {B : List (Int × Int)} (hr : w.rangeAt h 0 (bndC B)) : Bnd (w.alloc (.cells #[.slice (some ⟨h, 0, none⟩) B.length c] 265)) (.func (.func 168) #[] #[.pointer (some ⟨w.heap.size, 0, none⟩)]) B :=
  ⟨w.heap.size, h, c, rfl, cell_of_block (heap_alloc_last w _ rfl) 0, World.rangeAt_alloc hr _⟩
def spanB (f n : Int) : Bool := decide (0 ≤ f) && decide (1 ≤ n) && decide (n ≤ 4096) && decide (f ≤ 4096 - n)
theorem span_any (f n : Int) (w : World) : Calls Tryz.prog 118 #[.int .i64 f, .int .i64 n] w fun e w' => e = .returned (.bool (spanB f n)) ∧ w' = w := by
  by_cases h1 : 0 ≤ f
  · by_cases h2 : 1 ≤ n
    · by_cases h3 : n ≤ 4096
      · have e : spanB f n = decide (f ≤ 4096 - n) := by simp [spanB, h1, h2, h3]
        have HE := Lib.hid e
        clear e
        go_enter Tryz.func118, Tryz.ntmps118
        go_wp2
        go_ret
        exact ⟨by rw [HE.out]; rfl, rfl⟩
      · have HE : Hid (spanB f n = false) := by show _ = _; simp [spanB, h3]
        have q : decide (n ≤ 4096) = false := by simpa using h3
        go_enter Tryz.func118, Tryz.ntmps118
        go_wp2
        go_ret
        exact ⟨by rw [HE.out]; rfl, rfl⟩
    · have HE : Hid (spanB f n = false) := by show _ = _; simp [spanB, h2]
      have q : decide (1 ≤ n) = false := by simpa using h2
      go_enter Tryz.func118, Tryz.ntmps118
      go_wp2
      go_ret
      exact ⟨by rw [HE.out]; rfl, rfl⟩
  · have HE : Hid (spanB f n = false) := by show _ = _; simp [spanB, h1]
    have q : decide (0 ≤ f) = false := by simpa using h1
    go_enter Tryz.func118, Tryz.ntmps118
    go_wp2
    go_ret
    exact ⟨by rw [HE.out]; rfl, rfl⟩
set_option maxRecDepth 100000 in
set_option maxHeartbeats 1000000 in
theorem within_any {w : World} {g h c gl ol m cl : Nat} (B : List (Int × Int)) (xs : List Int) (hc : w.cell? ⟨g, 0, none⟩ = some (.slice (some ⟨h, 0, none⟩) B.length c)) (hr : w.rangeAt h 0 (bndC B)) (hx : w.rangeAt gl ol (ints xs)) (hm : xs.length = m) (hB : B.length ≤ m) (hm2 : m ≤ 100) :
    Calls Tryz.prog 168 #[.slice (some ⟨gl, ol, none⟩) m cl, .pointer (some ⟨g, 0, none⟩)] w fun e w' => e = .returned (.bool (withinB B xs)) ∧ Below w.heap.size w w' := by
  have H := Lib.hid (And.intro hr (And.intro hx hm))
  clear hr hx hm
  go_enter Tryz.func168, Tryz.ntmps168
  go_wp2
  go_loopw [8] (fun s8 wr => ∃ k : Nat, k ≤ B.length ∧ s8 = .int .i64 k ∧ Below w.heap.size w wr ∧ ((B.zip xs).take k).all (fun q => inB q.1 q.2) = true) (fun s8 _ => B.length - (intOf s8).toNat)
  case atStart => exact ⟨0, Nat.zero_le _, rfl, Below.refl _ _, by simp⟩
  case round =>
    obtain ⟨k, hk, rfl, hb, ha⟩ := hrel
    have HA := Lib.hid (And.intro ha hb)
    by_cases hlt : k < B.length
    · obtain ⟨hr, hx, hm⟩ := H.out
      have hkx : k < xs.length := by omega
      have r1 := (Below.range hb hr) (k * 2) _ (bndC_at hlt).1
      have r2 := (Below.range hb hr) (k * 2 + 1) _ (bndC_at hlt).2
      have rx := ints_range (Below.range hb hx) hkx
      rw [Nat.zero_add] at r1 r2
      have hts : Hid (((B.zip xs).take (k + 1)) = (B.zip xs).take k ++ [(B[k], xs[k])]) := by
        show _ = _
        rw [List.take_succ_eq_append_getElem (by rw [List.length_zip]; omega), List.getElem_zip]
      obtain ⟨lo, hi, hp⟩ : ∃ lo hi, B[k] = (lo, hi) := ⟨_, _, rfl⟩
      have HP := Lib.hid hp
      rw [hp] at r1 r2
      simp only at r1 r2
      have b3 : (0 : Int) ≤ (k : Int) ∧ (k : Int) < (B.length : Int) ∧ (k : Int) < (m : Int) := by omega
      have hbl : wr.heap.size ≤ wr.heap.size := Nat.le_refl _
      clear hp ha hr hx hm hb
      obtain ⟨b3, b4, b5⟩ := b3
      obtain ⟨x, hxk⟩ : ∃ x, xs[k] = x := ⟨_, rfl⟩
      have HX := Lib.hid hxk
      rw [hxk] at rx
      have hglt : gl < wr.heap.size := World.block_lt_of_cell? wr _ rx
      clear hxk
      have hblw : Below w.heap.size w (wr.alloc (.cells #[.int .i64 lo, .int .i64 hi] 202)) := HA.out.2.alloc HA.out.2.size _
      by_cases h1 : x < lo
      · have hin : Hid (withinB B xs = false) := by
          show _ = _
          refine all_false_at (k := k) (by rw [List.length_zip]; omega) ?_
          rw [List.getElem_zip, HP.out, HX.out]
          simp [inB]; omega
        have q1 : decide (x < lo) = true := by simpa using h1
        clear h1
        have HB := Lib.hid hblw
        clear hblw
        go_wp2
        go_quiet (fail)
        go_wp2
        go_ret
        exact ⟨by rw [hin.out]; rfl, below_drewN HB.out _⟩
      · by_cases h2 : hi < x
        · have hin : Hid (withinB B xs = false) := by
            show _ = _
            refine all_false_at (k := k) (by rw [List.length_zip]; omega) ?_
            rw [List.getElem_zip, HP.out, HX.out]
            simp [inB]; omega
          have q1 : decide (x < lo) = false := by simpa using h1
          have q2 : decide (hi < x) = true := by simpa using h2
          clear h1 h2
          have HB := Lib.hid hblw
          clear hblw
          go_wp2
          go_quiet (fail)
          go_wp2
          go_ret
          exact ⟨by rw [hin.out]; rfl, below_drewN HB.out _⟩
        · have hin : Hid (inB (B[k], xs[k]).1 (B[k], xs[k]).2 = true) := by
            show _ = _
            rw [HP.out, HX.out]
            simp [inB]; omega
          have q1 : decide (x < lo) = false := by simpa using h1
          have q2 : decide (hi < x) = false := by simpa using h2
          clear h1 h2
          have HB := Lib.hid hblw
          clear hblw
          go_wp2
          go_quiet (fail)
          go_wp2
          go_roundw
          case rel => exact ⟨k + 1, by omega, by go_num, below_drewN HB.out _, by rw [hts.out, List.all_append, HA.out.1]; simpa using hin.out⟩
          case measure => simp [intOf]; omega
    · obtain rfl : k = B.length := by omega
      have hin : Hid (withinB B xs = true) := by
        have := HA.out.1
        rw [List.take_of_length_le (by rw [List.length_zip]; omega)] at this
        exact this
      go_wp2
      go_ret
      exact ⟨by rw [hin.out]; rfl, HA.out.2⟩
theorem tellI (a b c d : Int) (w : World) :
    Calls Tryz.prog 116 #[.agg #[.int .i64 a, .int .i64 b, .int .i64 c, .int .i64 d]] w fun e w' => ∃ g, e = .returned (.slice (some ⟨g, 0, none⟩) 4 4) ∧ w'.heap[g]? = some (.cells (ints [a, b, c, d]).toArray 3 (0, 0)) ∧ w.heap.size ≤ g ∧ Below w.heap.size w w' := by
  go_enter Tryz.func116, Tryz.ntmps116
  go_wp2
  go_ret
  exact ⟨w.heap.size + 1, rfl, heap_alloc_last _ _ (by simp), by omega, ((Below.refl _ w).alloc (Nat.le_refl _) _).alloc (by simp) _⟩
def bndI : List (Int × Int) := [(0, 1099511627776), (0, 1099511627776)]
def mayI (xs : List Int) : Bool := withinB bndI xs && spanB (xs.getD 2 0) (xs.getD 3 0)
set_option maxRecDepth 100000 in
set_option maxHeartbeats 1000000 in
theorem mayI_any {w : World} {gl ol cl gt : Nat} {v : Value} (a b c d : Int) (hv : w.cell? ⟨gt, 0, none⟩ = some v) (hB : Bnd w v bndI) (hx : w.rangeAt gl ol (ints [a, b, c, d])) :
    Calls Tryz.prog 117 #[.slice (some ⟨gl, ol, none⟩) 4 cl, .pointer (some ⟨gt, 0, none⟩)] w fun e w' => e = .returned (.bool (mayI [a, b, c, d])) ∧ Below w.heap.size w w' := by
  have HB := Lib.hid hB
  obtain ⟨g, h, cc, rfl, hc, hr⟩ := hB
  have x2 := ints_range hx (i := 2) (by simp)
  have x3 := ints_range hx (i := 3) (by simp)
  simp at x2 x3
  have hud : Upd (fun _ => False) w w.drew := (Upd.refl _ _).drew
  have HX := Lib.hid (And.intro (hud.range hx (fun h => h)) (And.intro (hud.cellv hc (fun h => h)) (hud.range hr (fun h => h))))
  have hm : mayI [a, b, c, d] = (withinB bndI [a, b, c, d] && spanB c d) := rfl
  have HM := Lib.hid hm
  clear hx hr hm hc hud
  obtain ⟨wb, hw⟩ : ∃ wb, withinB bndI [a, b, c, d] = wb := ⟨_, rfl⟩
  have HW := Lib.hid hw
  cases wb
  · rw [hw] at HM
    clear hw
    go_enter Tryz.func117, Tryz.ntmps117
    go_wp2
    refine wp_region_held_drew (S := fun W => W.cell? ⟨gt, 0, none⟩ = some (.func (.func 168) #[] #[.pointer (some ⟨g, 0, none⟩)])) (by kernel_rfl) (by rw [World.cell?_drew]; exact hv) (fun hHeld => ?_)
    refine tk (i := 0) (v := ?_) rfl ?_ hHeld ?_
    rotate_left
    · intro W hSw; (try dsimp only at hSw); (try go_split_ands); go_simp; (try with_reducible rfl)
    simp only [Act.put, List.setIfInBounds_toArray]
    refine tk (i := 1) (v := ?_) rfl ?_ hHeld ?_
    rotate_left
    · intro W hSw; (try dsimp only at hSw); (try go_split_ands); go_simp; (try with_reducible rfl)
    simp only [Act.put]
    refine wpAnyH_ready (rs := [2]) (by kernel_rfl) (by simp) ?_
    refine AllReadyH.cons rfl (fun K hK => ?_) AllReadyH.nil
    go_simp
    refine (within_any bndI [a, b, c, d] HX.out.2.1 HX.out.2.2 HX.out.1 rfl (by show 2 ≤ 4; decide) (by show 4 ≤ 100; decide)).mono ?_
    rw [HW.out]
    rintro e w' ⟨rfl, hb⟩
    refine hK.out _ _ ((Upd.of_below (S := fun _ => False) hb).cellv hHeld (fun h => h)) (fun hHeld2 => ?_)
    clear hK K
    refine tk (i := 3) (v := ?_) rfl ?_ hHeld2 ?_
    rotate_left
    · intro W hSw; (try dsimp only at hSw); (try go_split_ands); go_simp; (try with_reducible rfl)
    simp only [Act.put, List.setIfInBounds_toArray]
    refine' wpAnyH_take (i := 4) rfl (by kernel_rfl) (by kernel_rfl) (by kernel_rfl) (fun _ _ _ h => h) (Or.inr ⟨by rfl, rfl⟩) hHeld2 _
    simp only [Act.put]
    refine' wpAnyH_take (i := 5) rfl (by kernel_rfl) (by kernel_rfl) (by kernel_rfl) (fun _ _ _ h => h) (Or.inr ⟨by rfl, rfl⟩) hHeld2 _
    simp only [Act.put]
    refine' wpAnyH_take (i := 6) rfl (by kernel_rfl) (by kernel_rfl) (by kernel_rfl) (fun _ _ _ h => h) (Or.inr ⟨by rfl, rfl⟩) hHeld2 _
    simp only [Act.put]
    refine' wpAnyH_take (i := 7) rfl (by kernel_rfl) (by kernel_rfl) (by kernel_rfl) (fun _ _ _ h => h) (Or.inr ⟨by rfl, rfl⟩) hHeld2 _
    simp only [Act.put]
    refine' wpAnyH_take (i := 8) rfl (by kernel_rfl) (by kernel_rfl) (by kernel_rfl) (fun _ _ _ h => h) (Or.inr ⟨by rfl, rfl⟩) hHeld2 _
    simp only [Act.put]
    refine' wpAnyH_take (i := 9) rfl (by kernel_rfl) (by kernel_rfl) (by kernel_rfl) (fun _ _ _ h => h) (Or.inr ⟨by rfl, rfl⟩) hHeld2 _
    simp only [Act.put]
    refine' wpAnyH_take (i := 10) rfl (by kernel_rfl) (by kernel_rfl) (by kernel_rfl) (fun _ _ _ h => h) (Or.inr ⟨by rfl, rfl⟩) hHeld2 _
    simp only [Act.put]
    refine wpAnyH_ready (rs := [11]) (by kernel_rfl) (by simp) ?_
    refine AllReadyH.cons rfl (fun K hK => ?_) AllReadyH.nil
    go_simp
    refine hK.out _ _ (hHeld2) (fun _ => ?_)
    clear hK K
    refine wpAnyH_ready (rs := [12]) (by kernel_rfl) (by simp) ?_
    refine AllReadyH.cons rfl (fun K hK => ?_) AllReadyH.nil
    go_simp
    refine hK.out _ _ (hHeld2) (fun _ => ?_)
    clear hK K
    refine wpAnyH_done (by kernel_rfl) ?_ _
    have HB2 : Hid (Below w.heap.size w w') := bundrew' hb
    clear hb hHeld hHeld2
    go_wp2
    go_ret
    exact ⟨by rw [HM.out]; rfl, HB2.out⟩
  · rw [hw] at HM
    clear hw
    go_enter Tryz.func117, Tryz.ntmps117
    go_wp2
    go_region_held3 (fun W => W.cell? ⟨gt, 0, none⟩ = some (.func (.func 168) #[] #[.pointer (some ⟨g, 0, none⟩)]) ∧ W.cell? ⟨gl, ol + 2, none⟩ = some (.int .i64 c) ∧ W.cell? ⟨gl, ol + 3, none⟩ = some (.int .i64 d) ∧ Below w.heap.size w W)
      ((go_split_ands; (simp only [World.cell?_drew] at *); (refine ⟨?_, ?_, ?_, ?_⟩) <;> first | assumption | (exact below_drewN (Below.refl _ w) 1) | (exact (Upd.of_below (S := fun _ => False) (by assumption)).cellv (by assumption) (fun h => h)) | (exact Below.trans (by assumption) (by assumption))))
      (first | (go_at_call 168; refine (within_any bndI [a, b, c, d] HX.out.2.1 HX.out.2.2 HX.out.1 rfl (by show 2 ≤ 4; decide) (by show 4 ≤ 100; decide)).mono ?_; rw [HW.out]; rintro e w' ⟨rfl, hb⟩) | (go_at_call 118; refine (span_any _ _ _).mono ?_; rintro e w' ⟨rfl, rfl⟩))
    rename_i w' hb hHeld
    have HB2 : Hid (Below w.heap.size w w') := bundrew' hb
    clear hb hHeld
    go_wp2
    go_ret
    exact ⟨by rw [HM.out]; rfl, HB2.out⟩
theorem infoIn : (Tryz.prog.info? 39).map (·.size) = some 4 := by kernel_rfl
theorem five_new (w : World) (A B C D E : Obj) : let W := ((((w.alloc A).alloc B).alloc C).alloc D).alloc E
    W.heap[w.heap.size]? = some A ∧ W.heap[w.heap.size + 1]? = some B ∧ W.heap[w.heap.size + 1 + 1]? = some C ∧ W.heap[w.heap.size + 1 + 1 + 1]? = some D ∧ W.heap[w.heap.size + 1 + 1 + 1 + 1]? = some E ∧ W.heap.size = w.heap.size + 5 ∧ Upd (fun _ => False) w W := by
  obtain ⟨h1, h2, h3, h4, h5, h6⟩ := four_new w A B C D
  refine ⟨?_, ?_, ?_, ?_, heap_alloc_last _ _ (by simp), by simp, h6.alloc _⟩
  · rw [Below.heap_alloc _ _ _ (lt_of_block h1)]; exact h1
  · rw [Below.heap_alloc _ _ _ (lt_of_block h2)]; exact h2
  · rw [Below.heap_alloc _ _ _ (lt_of_block h3)]; exact h3
  · rw [Below.heap_alloc _ _ _ (lt_of_block h4)]; exact h4
def formIV (gs gt : Nat) : Value := .agg #[.int .i64 4, .slice (some ⟨gs, 0, none⟩) 4 4, .func (.func 116) #[] #[], .func (.func 117) #[] #[.pointer (some ⟨gt, 0, none⟩)], .func (.func 119) #[] #[]]
def FormI (w : World) (gs gt : Nat) : Prop := w.rangeAt gs 0 (ints [6, 6, 2, 2]) ∧ ∃ v, w.cell? ⟨gt, 0, none⟩ = some v ∧ Bnd w v bndI
theorem FormI.below {w w' : World} {gs gt : Nat} (h : FormI w gs gt) (hb : Below w.heap.size w w') : FormI w' gs gt := by
  obtain ⟨h1, v, h2, h3⟩ := h
  exact ⟨Below.range hb h1, v, (Upd.of_below (S := fun _ => False) hb).cellv h2 (fun h => h), h3.below hb⟩
theorem infoFoI : (Tryz.prog.info? 127).map (·.size) = some 5 := by kernel_rfl
set_option maxRecDepth 100000 in
set_option maxHeartbeats 1000000 in
theorem intents_any (w : World) : Calls Tryz.prog 58 #[] w fun e w' => ∃ gs gt, e = .returned (formIV gs gt) ∧ FormI w' gs gt ∧ Below w.heap.size w w' := by
  have hmf : ∀ (fn : Fn) (first cap : Array Value) (w : World), (Instr.makeFunc fn first cap).run Tryz.prog w = .ok (.func fn first cap) w := fun _ _ _ _ => rfl
  go_enter Tryz.func58, Tryz.ntmps58
  go_wp2_with fail
  refine (within_ok).mono ?_
  rintro e w1 ⟨rfl, rfl⟩
  go_wp2
  obtain ⟨h1, h2, h3, h4, h5, h6, h7⟩ := five_new w (.cells #[.int .i64 4, .slice (some ⟨w.heap.size + 1 + 1 + 1 + 1, 0, none⟩) 4 4, .func (.func 116) #[] #[], .func (.func 117) #[] #[.pointer (some ⟨w.heap.size + 1 + 1 + 1, 0, none⟩)], .func (.func 119) #[] #[]] 127)
    (.cells (bndC bndI).toArray 202) (.cells #[.slice (some ⟨w.heap.size + 1, 0, none⟩) 2 2] 265) (.cells #[.func (.func 168) #[] #[.pointer (some ⟨w.heap.size + 1 + 1, 0, none⟩)]] 124) (.cells (ints [6, 6, 2, 2]).toArray 3)
  refine bodyPost_ret (results_mid1 rfl _ _ w.heap.size 0 [.int .i64 4, .slice (some ⟨w.heap.size + 1 + 1 + 1 + 1, 0, none⟩) 4 4, .func (.func 116) #[] #[], .func (.func 117) #[] #[.pointer (some ⟨w.heap.size + 1 + 1 + 1, 0, none⟩)], .func (.func 119) #[] #[]] _ rfl (range_of_block h1) Tryz.underlying127 rfl infoFoI) rfl
    ⟨w.heap.size + 1 + 1 + 1 + 1, w.heap.size + 1 + 1 + 1, rfl, ⟨range_of_block h5, _, cell_of_block h4 0, w.heap.size + 1 + 1, w.heap.size + 1, 2, rfl, cell_of_block h3 0, range_of_block h2⟩, Upd.below h7⟩
def encB (l : List (Nat × Nat)) : List UInt8 := l.flatMap fun p => lowB p.1 p.2
theorem encB_snoc (l : List (Nat × Nat)) (p : Nat × Nat) : encB (l ++ [p]) = encB l ++ lowB p.1 p.2 := by simp [encB]
def sizes (l : List (Nat × Nat)) : Nat := (l.map (·.2)).sum
theorem encB_len (l : List (Nat × Nat)) : (encB l).length = sizes l := by
  induction l with
  | nil => rfl
  | cons p l ih => simp only [encB, sizes, List.flatMap_cons, List.length_append, lowB_len, List.map_cons, List.sum_cons] at ih ⊢; rw [ih]
theorem sizes_take (l : List (Nat × Nat)) {i : Nat} (hi : i < l.length) : sizes (l.take i) + l[i].2 ≤ sizes l := by
  have h := congrArg sizes (List.take_append_drop (i + 1) l)
  rw [List.take_succ_eq_append_getElem hi] at h
  simp only [sizes, List.map_append, List.sum_append, List.map_cons, List.map_nil, List.sum_cons, List.sum_nil] at h ⊢
  omega
def Fits (l : List (Nat × Nat)) : Prop := (∀ p ∈ l, p.1 < 256 ^ p.2 ∧ 1 ≤ p.2 ∧ p.2 ≤ 7) ∧ sizes l ≤ 59
def numsL (l : List (Nat × Nat)) : List Int := l.map fun p => (p.1 : Int)
def sizesL (l : List (Nat × Nat)) : List Int := l.map fun p => (p.2 : Int)
theorem numsL_get {l : List (Nat × Nat)} {i : Nat} (h : i < l.length) : (ints (numsL l))[i]? = some (.int .i64 (l[i].1 : Int)) := by
  rw [get_ints (by simpa [numsL] using h)]; simp [numsL]
theorem sizesL_get {l : List (Nat × Nat)} {i : Nat} (h : i < l.length) : (ints (sizesL l))[i]? = some (.int .i64 (l[i].2 : Int)) := by
  rw [get_ints (by simpa [sizesL] using h)]; simp [sizesL]
def sectB (k : Nat) (l : List (Nat × Nat)) : Bk := sealB (padB (lowB k 1 ++ encB l))
theorem sect_pad_len {k : Nat} {l : List (Nat × Nat)} (h : sizes l ≤ 59) : (padB (lowB k 1 ++ encB l)).length = 64 := padB_len (by simp [lowB_len, encB_len]; omega)
theorem sectB_len {k : Nat} {l : List (Nat × Nat)} (h : sizes l ≤ 59) : (sectB k l).length = 64 := sealB_len (sect_pad_len h)
def TellPost (W : World) (m : Nat) (xs : List Int) (e : Ending) (W' : World) : Prop := ∃ g c, e = .returned (.slice (some ⟨g, 0, none⟩) m c) ∧ W'.rangeAt g 0 (ints xs) ∧ Below W.heap.size W W'
theorem three_new (w : World) (A B C : Obj) : let W := ((w.alloc A).alloc B).alloc C
    W.heap[w.heap.size]? = some A ∧ W.heap[w.heap.size + 1]? = some B ∧ W.heap[w.heap.size + 1 + 1]? = some C ∧ W.heap.size = w.heap.size + 3 ∧ Upd (fun _ => False) w W := by
  refine ⟨?_, ?_, heap_alloc_last _ _ (by simp), by simp, (((Upd.refl _ w).alloc _).alloc _).alloc _⟩
  · rw [Below.heap_alloc _ _ _ (by simp <;> omega), Below.heap_alloc _ _ _ (by simp)]; exact heap_alloc_last w _ rfl
  · rw [Below.heap_alloc _ _ _ (by simp)]; exact heap_alloc_last _ _ (by simp)
set_option maxRecDepth 100000 in
set_option maxHeartbeats 2000000 in
theorem putI_yes {w : World} (k : Nat) (hk : k < 256) (l : List (Nat × Nat)) (hl : Fits l) (m : Nat) (hm : l.length = m) (hm2 : m ≤ 100) (gs cl : Nat) (ft fm : Nat) (ct cm : Array Value) (bv : Value) (_hbv : bv.oneCell' = true) (cs : List Value)
    (hcs : (Tryz.prog.info? 39).map (·.size) = some cs.length) (hs : w.rangeAt gs 0 (ints (sizesL l))) (hN : Nib w)
    (entT : ∀ args w, (callFunc ft args).run Tryz.prog w = .ok (.enter ft args) w) (entM : ∀ args w, (callFunc fm args).run Tryz.prog w = .ok (.enter fm args) w)
    (htell : ∀ W, Below w.heap.size w W → Calls Tryz.prog ft (#[.agg cs.toArray] ++ ct) W (TellPost W m (numsL l)))
    (hmay : ∀ W gl c, Below w.heap.size w W → W.rangeAt gl 0 (ints (numsL l)) → Calls Tryz.prog fm (#[.slice (some ⟨gl, 0, none⟩) m c] ++ cm) W fun e W' => e = .returned (.bool true) ∧ Below W.heap.size W W') :
    Calls Tryz.prog 67 #[.agg #[.int .i64 (k : Int), .slice (some ⟨gs, 0, none⟩) m cl, .func (.func ft) #[] ct, .func (.func fm) #[] cm, bv], .agg cs.toArray] w
      fun e w' => e = .returned (.tuple #[.agg (bkC (sectB k l)).toArray, .int .i64 0]) ∧ Below w.heap.size w w' := by
  have H := Lib.hid (And.intro hs (And.intro hN (And.intro htell (And.intro hmay (And.intro hk (And.intro hl hm))))))
  have HC := Lib.hid hcs
  clear hs hN htell hmay hk hl hm hcs
  have hr : ((w.alloc (.cells #[.int .i64 (k : Int), .slice (some ⟨gs, 0, none⟩) m cl, .func (.func ft) #[] ct, .func (.func fm) #[] cm, bv] 127)).alloc (.cells cs.toArray 39)).rangeAt (w.heap.size + 1) 0 cs := range_of_block (heap_alloc_last _ _ (by simp))
  go_enter Tryz.func67, Tryz.ntmps67
  go_wp2_with (first
    | (refine wpList_load_mid rfl _ _ rfl _ _ rfl _ _ (World.rangeAt_alloc hr _) Tryz.underlying39 rfl HC.out ?_)
    | fail)
  show Calls _ _ _ (((w.alloc (.cells #[.int .i64 (k : Int), .slice (some ⟨gs, 0, none⟩) m cl, .func (.func ft) #[] ct, .func (.func fm) #[] cm, bv] 127)).alloc (.cells cs.toArray 39)).alloc (.cells (bkC zB).toArray 23)) _
  obtain ⟨h1, h2, h3, h4, h5⟩ := three_new w (.cells #[.int .i64 (k : Int), .slice (some ⟨gs, 0, none⟩) m cl, .func (.func ft) #[] ct, .func (.func fm) #[] cm, bv] 127) (.cells cs.toArray 39) (.cells (bkC zB).toArray 23)
  clear hr
  generalize ((w.alloc (.cells #[.int .i64 (k : Int), .slice (some ⟨gs, 0, none⟩) m cl, .func (.func ft) #[] ct, .func (.func fm) #[] cm, bv] 127)).alloc (.cells cs.toArray 39)).alloc (.cells (bkC zB).toArray 23) = w3 at *
  refine (H.out.2.2.1 w3 (Upd.below h5)).mono ?_
  rintro e w4 ⟨gl, c4, rfl, hr4, hb4⟩
  have hu4 : Upd (fun _ => False) w3 w4 := Upd.of_below hb4
  have f1 := (hu4.block _ (lt_of_block h1) (fun h => h)).trans h1
  have f3 := (hu4.block _ (lt_of_block h3) (fun h => h)).trans h3
  have m3 : w4.cell? ⟨w.heap.size, 3, none⟩ = some (.func (.func fm) #[] cm) := cell_of_block f1 3
  have H4 := Lib.hid (And.intro hr4 (And.intro (h5.trans hu4) (And.intro f1 (And.intro f3 h4))))
  clear h1 h2 h3 h4 h5 hr4 hb4 hu4 f1 f3
  go_wp2_with fail
  refine (H.out.2.2.2.1 w4 gl c4 (Upd.below H4.out.2.1) H4.out.1).mono ?_
  rintro e w5 ⟨rfl, hb5⟩
  have hu5 : Upd (fun _ => False) w4 w5 := Upd.of_below hb5
  obtain ⟨r4, u4, f1, f3, z4⟩ := H4.out
  have r5 := hu5.range r4 (fun h => h)
  have g1 := (hu5.block _ (lt_of_block f1) (fun h => h)).trans f1
  have g3 := (hu5.block _ (lt_of_block f3) (fun h => h)).trans f3
  have m0 : w5.cell? ⟨w.heap.size, 0, none⟩ = some (.int .i64 (k : Int)) := cell_of_block g1 0
  have z5 : w.heap.size + 3 ≤ w5.heap.size := by have h1 := lt_of_block g3; have h2 := hu5.size; have h3 := u4.size; have h4 := lt_of_block f3; have h5 := z4; have h6 := H4.out.2.2.2.2; omega
  have H5 := Lib.hid (And.intro r5 (And.intro (u4.trans hu5) (And.intro g1 g3)))
  clear r4 u4 f1 f3 z4 r5 g1 g3 hu5 hb5 m3
  go_wp2_with fail
  generalize hM : w.heap.size = M at *
  have HM := Lib.hid hM
  clear hM
  refine wp_region_held_drew (S := fun W => W.cell? ⟨M, 0, none⟩ = some (.int .i64 (k : Int))) (by kernel_rfl) (by rw [World.cell?_drew]; exact m0) (fun hHeld => ?_)
  refine tk (i := 1) (v := ?_) rfl ?_ hHeld ?_
  rotate_left
  · intro W hSw; (try dsimp only at hSw); (try go_split_ands); go_simp; (try with_reducible rfl)
  simp only [Act.put, List.setIfInBounds_toArray]
  refine tk (i := 2) (v := ?_) rfl ?_ hHeld ?_
  rotate_left
  · intro W hSw; (try dsimp only at hSw); (try go_split_ands); go_simp; (try with_reducible rfl)
  simp only [Act.put]
  refine wpAnyH_ready (rs := [0]) (by kernel_rfl) (by simp) ?_
  refine AllReadyH.cons rfl (fun K hK => ?_) AllReadyH.nil
  go_simp
  refine (wwrite _).mono ?_
  rintro e w6 ⟨g, rfl, hW, hge, hB⟩
  have hge' : w5.heap.size ≤ g := hge
  refine hK.out _ _ ((Upd.of_below (S := fun _ => False) hB).cellv hHeld (fun h => h)) (fun hHeld2 => ?_)
  clear hK K
  refine wpAnyH_ready (rs := [3]) (by kernel_rfl) (by simp) ?_
  refine AllReadyH.cons rfl (fun K hK => ?_) AllReadyH.nil
  go_simp
  refine (wput hW k 1 (by decide) (by decide) (by have := H.out.2.2.2.2.1; omega) (by decide)).mono ?_
  rintro e w7 ⟨rfl, hW2, hU⟩
  refine hK.out _ _ (hU.cellv hHeld2 (by omega)) (fun hHeld3 => ?_)
  clear hK K
  refine wpAnyH_ready (rs := [4]) (by kernel_rfl) (by simp) ?_
  refine AllReadyH.cons rfl (fun K hK => ?_) AllReadyH.nil
  go_simp
  refine hK.out _ _ (hHeld3) (fun _ => ?_)
  clear hK K
  refine wpAnyH_done (by kernel_rfl) ?_ _
  obtain ⟨r5, u5, g1, g3⟩ := H5.out
  obtain ⟨hs, hN, -, -, hk, hl, hm⟩ := H.out
  have u57 : Upd (fun j => j = g) w5 w7 := ((Upd.of_below (S := fun _ => False) (bundrew' hB)).mono (fun _ _ h => h.elim)).trans hU
  have glt : gl < w5.heap.size ∨ m = 0 := by
    rcases Nat.eq_zero_or_pos m with h | h
    · exact .inr h
    · exact .inl (World.block_lt_of_cell? w5 _ (r5 0 _ (numsL_get (by omega))))
  have nM : w.heap.size = M := HM.out
  have gslt : gs < w.heap.size ∨ m = 0 := by
    rcases Nat.eq_zero_or_pos m with h | h
    · exact .inr h
    · exact .inl (World.block_lt_of_cell? w _ (hs 0 _ (sizesL_get (by omega))))
  have ws5 := u5.size
  have m1 : w7.cell? ⟨M, 1, none⟩ = some (.slice (some ⟨gs, 0, none⟩) m cl) := u57.cellv (cell_of_block g1 1) (by omega)
  have g3' := (u57.block (M + 1 + 1) (lt_of_block g3) (by omega)).trans g3
  have hN7 : Nib w7 := ((hN.keep u5 (fun h => h)).keep u57 (by have := hN.lt; omega))
  have hlow : Below M w w7 := below_upd (by rw [← nM]; exact Upd.below u5) u57 (by rw [← nM]; exact Nat.le_refl _) (fun k e => by omega)
  have hr7 : ∀ i (hi : i < l.length) W, Upd (fun j => j = g) w7 W → W.cell? ⟨gl, 0 + i, none⟩ = some (.int .i64 (l[i].1 : Int)) := fun i hi W hW => hW.cellv (u57.cellv (r5 i _ (numsL_get hi)) (by omega)) (by omega)
  have hs7 : ∀ i (hi : i < l.length) W, Upd (fun j => j = g) w7 W → W.cell? ⟨gs, 0 + i, none⟩ = some (.int .i64 (l[i].2 : Int)) := fun i hi W hW => hW.cellv (u57.cellv ((u5.range hs (fun h => h)) i _ (sizesL_get hi)) (by omega)) (by omega)
  have H7 := Lib.hid (And.intro hr7 (And.intro hs7 (And.intro m1 (And.intro g3' (And.intro hN7 (And.intro hlow (And.intro hl (And.intro hm hW2))))))))
  have hgeM : M ≤ g := by omega
  have hgM : ¬ M = g := by omega
  have hgM2 : ¬ M + 1 + 1 = g := by omega
  have hMw := lt_of_block g3'
  rename_i hx
  clear hx hHeld hHeld2 hHeld3 hW hge hB hU hW2 hN hs hk hl hm r5 u5 g1 g3 u57 glt gslt nM ws5 m1 g3' hN7 hlow hr7 hs7 m0
  go_wp2
  go_loopw [26] (fun s26 wr => ∃ i : Nat, i ≤ m ∧ s26 = .int .i64 i ∧ WrAt wr g (lowB k 1 ++ encB (l.take i)) ∧ Upd (fun j => j = g) w7 wr) (fun s26 _ => m - (intOf s26).toNat)
  case atStart => exact ⟨0, Nat.zero_le _, rfl, by simpa [encB] using H7.out.2.2.2.2.2.2.2.2, Upd.refl _ _⟩
  case round =>
    obtain ⟨i, hi, rfl, hW, hu⟩ := hrel
    by_cases hlt : i < m
    · obtain ⟨hr7, hs7, m1, g3', hN7, hlow, hl, hm, -⟩ := H7.out
      have hil : i < l.length := by omega
      have x1 := hr7 i hil wr hu
      have x2 := hs7 i hil wr hu
      have x3 := hu.cellv m1 hgM
      rw [Nat.zero_add] at x1 x2
      have hfit := hl.1 l[i] (List.getElem_mem hil)
      have hsz := sizes_take l hil
      have hts : Hid (encB (l.take (i + 1)) = encB (l.take i) ++ lowB l[i].1 l[i].2) := by show _ = _; rw [List.take_succ_eq_append_getElem hil, encB_snoc]
      have hlen : (lowB k 1 ++ encB (l.take i)).length + l[i].2 ≤ 60 := by
        rw [List.length_append, lowB_len, encB_len]; have := hl.2; omega
      have b1 : (0 : Int) ≤ (i : Int) ∧ (i : Int) < (m : Int) := by omega
      have HX := Lib.hid (And.intro hW (And.intro hu (And.intro hfit hlen)))
      clear hr7 hs7 m1 g3' hN7 hlow hl hm hW hu hfit hsz hlen
      obtain ⟨b1, b2⟩ := b1
      generalize l[i] = p at *
      go_wp2_with fail
      refine (wput HX.out.1 p.1 p.2 HX.out.2.2.1.2.1 HX.out.2.2.1.2.2 HX.out.2.2.1.1 HX.out.2.2.2).mono ?_
      rintro e w8 ⟨rfl, hW8, hU8⟩
      have HZ := Lib.hid (And.intro hW8 hU8)
      clear hW8 hU8
      go_wp2
      go_roundw
      case rel => exact ⟨i + 1, by omega, by go_num, by rw [hts.out, ← List.append_assoc]; exact HZ.out.1, HX.out.2.1.trans HZ.out.2⟩
      case measure => simp [intOf]; omega
    · obtain rfl : i = m := by omega
      obtain ⟨hr7, hs7, m1, g3', hN7, hlow, hl, hm, -⟩ := H7.out
      have hN8 := hN7.keep hu (by have := (H.out.2.1).lt; have := HM.out; omega)
      rw [List.take_of_length_le (by omega)] at hW
      have hg3 := (hu.block (M + 1 + 1) (lt_of_block g3') hgM2).trans g3'
      have hlen : Hid ((sectB k l).length = 64) := sectB_len hl.2
      have HX := Lib.hid (And.intro hW (And.intro hN8 (And.intro hu (And.intro hg3 (And.intro hlow hl)))))
      have hus := hu.size
      clear hr7 hs7 m1 g3' hN7 hlow hl hm hW hu hN8 hg3
      go_wp2_with fail
      refine (wseal HX.out.1 HX.out.2.1).mono ?_
      rintro e w9 ⟨rfl, hb9⟩
      have hg9 := (hb9.block (M + 1 + 1) (lt_of_block HX.out.2.2.2.1)).trans HX.out.2.2.2.1
      have hth : w9.there (M + 1 + 1) 0 64 := fun j hj => by
        rw [cell_of_block hg9, frozen_of_block hg9]
        exact ⟨by rw [Nat.zero_add, Array.getElem?_eq_getElem (by rw [bkC_size _ zB_len]; exact hj)]; rfl, rfl⟩
      have hbl : Hid (Below M w w9) := (below_upd HX.out.2.2.2.2.1 HX.out.2.2.1 (by have := HM.out; omega) (fun k e => by omega)).trans (hb9.mono (by omega))
      have hsl := hlen.out
      have hst : w9.there (M + 1 + 1) 0 (bkC (sectB k l)).toArray.size := by rw [bkC_size _ hsl]; exact hth
      have hst2 : w9.there (M + 1 + 1) 0 (bkC (sectB k l)).length := by rw [bkC_len, hsl]; exact hth
      have hsz2 : (Tryz.prog.info? 23).map (·.size) = some (bkC (sectB k l)).toArray.size := by rw [bkC_size _ hsl]; exact sizeBk'
      have HST := Lib.hid (And.intro hst (And.intro hsz2 (And.intro hst2 hsl)))
      clear hst hsz2 hst2 hsl hg9 hth hb9 hlen
      rw [show sealB (padB (lowB k 1 ++ encB l)) = sectB k l from rfl]
      generalize hsb : sectB k l = sb at *
      have Hsb := Lib.hid hsb
      clear hsb
      go_wp2_with (first
        | (refine wpList_store_mid rfl _ _ _ rfl _ _ (bkC sb).toArray rfl rfl HST.out.1 HST.out.2.1 (all_oneCell_toArray (bkC_one _)) ?_)
        | fail)
      refine bodyPost_ret (results_mid2 rfl _ _ (M + 1 + 1) 0 (bkC sb) _ rfl (World.rangeAt_setCells_same _ _ _ _ HST.out.2.2.1) Tryz.underlying23 rfl (sizeBk _ HST.out.2.2.2)) rfl
          ⟨by rw [Hsb.out]; rfl, ?_⟩
      rw [HM.out]
      exact below_upd hbl.out (upd_row w9 (M + 1 + 1) 0 _) (by have := HM.out; omega) (fun k e => by omega)
set_option maxRecDepth 100000 in
set_option maxHeartbeats 2000000 in
theorem putI_no {w : World} (k : Nat) (xs : List Int) (m : Nat) (gs cl : Nat) (ft fm : Nat) (ct cm : Array Value) (bv : Value) (_hbv : bv.oneCell' = true) (cs : List Value)
    (hcs : (Tryz.prog.info? 39).map (·.size) = some cs.length) 
    (entT : ∀ args w, (callFunc ft args).run Tryz.prog w = .ok (.enter ft args) w) (entM : ∀ args w, (callFunc fm args).run Tryz.prog w = .ok (.enter fm args) w)
    (htell : ∀ W, Below w.heap.size w W → Calls Tryz.prog ft (#[.agg cs.toArray] ++ ct) W (TellPost W m xs))
    (hmay : ∀ W gl c, Below w.heap.size w W → W.rangeAt gl 0 (ints xs) → Calls Tryz.prog fm (#[.slice (some ⟨gl, 0, none⟩) m c] ++ cm) W fun e W' => e = .returned (.bool false) ∧ Below W.heap.size W W') :
    Calls Tryz.prog 67 #[.agg #[.int .i64 (k : Int), .slice (some ⟨gs, 0, none⟩) m cl, .func (.func ft) #[] ct, .func (.func fm) #[] cm, bv], .agg cs.toArray] w
      fun e w' => e = .returned (.tuple #[bkV zB, .int .i64 10]) ∧ Below w.heap.size w w' := by
  have H := Lib.hid (And.intro htell hmay)
  have HC := Lib.hid hcs
  clear htell hmay hcs
  have hr : ((w.alloc (.cells #[.int .i64 (k : Int), .slice (some ⟨gs, 0, none⟩) m cl, .func (.func ft) #[] ct, .func (.func fm) #[] cm, bv] 127)).alloc (.cells cs.toArray 39)).rangeAt (w.heap.size + 1) 0 cs := range_of_block (heap_alloc_last _ _ (by simp))
  go_enter Tryz.func67, Tryz.ntmps67
  go_wp2_with (first
    | (refine wpList_load_mid rfl _ _ rfl _ _ rfl _ _ (World.rangeAt_alloc hr _) Tryz.underlying39 rfl HC.out ?_)
    | fail)
  show Calls _ _ _ (((w.alloc (.cells #[.int .i64 (k : Int), .slice (some ⟨gs, 0, none⟩) m cl, .func (.func ft) #[] ct, .func (.func fm) #[] cm, bv] 127)).alloc (.cells cs.toArray 39)).alloc (.cells (bkC zB).toArray 23)) _
  obtain ⟨h1, h2, h3, h4, h5⟩ := three_new w (.cells #[.int .i64 (k : Int), .slice (some ⟨gs, 0, none⟩) m cl, .func (.func ft) #[] ct, .func (.func fm) #[] cm, bv] 127) (.cells cs.toArray 39) (.cells (bkC zB).toArray 23)
  clear hr
  generalize ((w.alloc (.cells #[.int .i64 (k : Int), .slice (some ⟨gs, 0, none⟩) m cl, .func (.func ft) #[] ct, .func (.func fm) #[] cm, bv] 127)).alloc (.cells cs.toArray 39)).alloc (.cells (bkC zB).toArray 23) = w3 at *
  refine (H.out.1 w3 (Upd.below h5)).mono ?_
  rintro e w4 ⟨gl, c4, rfl, hr4, hb4⟩
  have hu4 : Upd (fun _ => False) w3 w4 := Upd.of_below hb4
  have f1 := (hu4.block _ (lt_of_block h1) (fun h => h)).trans h1
  have f3 := (hu4.block _ (lt_of_block h3) (fun h => h)).trans h3
  have m3 : w4.cell? ⟨w.heap.size, 3, none⟩ = some (.func (.func fm) #[] cm) := cell_of_block f1 3
  have H4 := Lib.hid (And.intro hr4 (And.intro (h5.trans hu4) (And.intro f1 (And.intro f3 h4))))
  clear h1 h2 h3 h4 h5 hr4 hb4 hu4 f1 f3
  go_wp2_with fail
  refine (H.out.2 w4 gl c4 (Upd.below H4.out.2.1) H4.out.1).mono ?_
  rintro e w5 ⟨rfl, hb5⟩
  have hu5 : Upd (fun _ => False) w4 w5 := Upd.of_below hb5
  obtain ⟨r4, u4, f1, f3, z4⟩ := H4.out
  have g3 := (hu5.block _ (lt_of_block f3) (fun h => h)).trans f3
  have hth : w5.there (w.heap.size + 1 + 1) 0 64 := fun j hj => by
    rw [cell_of_block g3, frozen_of_block g3]
    exact ⟨by rw [Nat.zero_add, Array.getElem?_eq_getElem (by rw [bkC_size _ zB_len]; exact hj)]; rfl, rfl⟩
  obtain ⟨z, Hz⟩ : ∃ z : Bk, Hid (z = zB) := ⟨zB, rfl⟩
  have hst : w5.there (w.heap.size + 1 + 1) 0 (bkC z).toArray.size := by rw [Hz.out, bkC_size _ zB_len]; exact hth
  have hst2 : w5.there (w.heap.size + 1 + 1) 0 (bkC z).length := by rw [Hz.out, bkC_len, zB_len]; exact hth
  have hsz2 : (Tryz.prog.info? 23).map (·.size) = some (bkC z).toArray.size := by rw [Hz.out, bkC_size _ zB_len]; exact sizeBk'
  have HST := Lib.hid (And.intro hst (And.intro hsz2 hst2))
  have HU := Lib.hid (u4.trans hu5)
  clear r4 u4 f1 f3 z4 hst hst2 hsz2 hth hu5 hb5 g3 m3
  go_wp2_with (first
      | (refine wpList_store_mid rfl _ _ _ rfl _ _ (bkC z).toArray rfl (by rw [Hz.out]; rfl) HST.out.1 HST.out.2.1 (all_oneCell_toArray (bkC_one _)) ?_)
      | fail)
  exact bodyPost_ret (results_mid2 rfl _ _ (w.heap.size + 1 + 1) 0 (bkC z) _ rfl (World.rangeAt_setCells_same _ _ _ _ HST.out.2.2) Tryz.underlying23 rfl (by rw [Hz.out]; exact sizeBk zB zB_len)) rfl
    ⟨by rw [Hz.out]; rfl, below_upd (Upd.below HU.out) (upd_row w5 (w.heap.size + 1 + 1) 0 _) (Nat.le_refl _) (fun k e => by omega)⟩
end Go.Proofs.YtnadilfobmgebaaGreatDoor
