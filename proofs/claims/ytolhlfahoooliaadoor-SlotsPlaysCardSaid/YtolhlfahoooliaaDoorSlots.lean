/- Slots: contracts of the code's functions, and of the document's. -/
import Derived.Test.YtolhlfahoooliaaDoorInts
namespace Go.Proofs.YtolhlfahoooliaaDoor
open Go Go.RowKit

/-- The table of turns, as the program lays it. -/
structure Tur (w : World) : Prop where
  c0 : w.cell? ⟨0, 0, none⟩ = some (.int .i64 2)
  c1 : w.cell? ⟨0, 1, none⟩ = some (.int .i64 28)
  c2 : w.cell? ⟨0, 2, none⟩ = some (.int .i64 24)
  c3 : w.cell? ⟨0, 3, none⟩ = some (.int .i64 17)
  c4 : w.cell? ⟨0, 4, none⟩ = some (.int .i64 0)

theorem Tur.lt {w : World} (h : Tur w) : 0 < w.heap.size := (addr_of_cell h.c0).2
theorem Tur.keep {w w' : World} (h : Tur w) {S : Nat → Prop} (hu : Upd S w w') (hs : ¬ S 0) : Tur w' :=
  ⟨(hu.cellAt h.lt hs).trans h.c0, (hu.cellAt h.lt hs).trans h.c1, (hu.cellAt h.lt hs).trans h.c2, (hu.cellAt h.lt hs).trans h.c3, (hu.cellAt h.lt hs).trans h.c4⟩
theorem Tur.below {w w' : World} (h : Tur w) (hb : Below w.heap.size w w') : Tur w' := h.keep (Upd.of_below (S := fun _ => False) hb) (fun h => h)

/-- Which turns may be. -/
def mayB (a b : Int) : Bool :=
  if a = 0 then b == 1 else if a = 1 then b == 2 || b == 3 || b == 4 else if a = 2 then b == 3 || b == 4 else if a = 3 then b == 0 || b == 4 else false

def stateB (a : Int) : Bool := decide (0 ≤ a) && decide (a ≤ 4)

theorem isState_any (a : Int) (w : World) : Calls Tryd.prog 25 #[.int .i64 a] w fun e w' => e = .returned (.bool (stateB a)) ∧ w' = w := by
  by_cases h1 : 0 ≤ a
  · by_cases h2 : a ≤ 4
    · go_enter Tryd.func25, Tryd.ntmps25
      go_wp2
      go_ret
      exact ⟨by simp [stateB, h1, h2], rfl⟩
    · go_enter Tryd.func25, Tryd.ntmps25
      go_wp2
      go_ret
      exact ⟨by simp [stateB, h1, h2], rfl⟩
  · go_enter Tryd.func25, Tryd.ntmps25
    go_wp2
    go_ret
    exact ⟨by simp [stateB]; omega, rfl⟩

theorem may_out (a b : Int) (h : ¬ (0 ≤ a ∧ a ≤ 4) ∨ ¬ (0 ≤ b ∧ b ≤ 4)) : mayB a b = false := by
  unfold mayB
  repeat' split
  all_goals first | rfl | (simp; omega)

theorem may_any (a b : Int) (w : World) (ht : Tur w) : Calls Tryd.prog 9 #[.int .i64 a, .int .i64 b] w fun e w' => e = .returned (.bool (mayB a b)) ∧ w' = w := by
  by_cases ha : 0 ≤ a ∧ a ≤ 4
  · by_cases hb : 0 ≤ b ∧ b ≤ 4
    · obtain ⟨c0, c1, c2, c3, c4⟩ := ht
      have ha' : a = 0 ∨ a = 1 ∨ a = 2 ∨ a = 3 ∨ a = 4 := by omega
      have hb' : b = 0 ∨ b = 1 ∨ b = 2 ∨ b = 3 ∨ b = 4 := by omega
      clear ha hb
      rcases ha' with rfl | rfl | rfl | rfl | rfl <;> rcases hb' with rfl | rfl | rfl | rfl | rfl
      all_goals
        go_enter Tryd.func9, Tryd.ntmps9
        go_wp2
        go_ret
        exact ⟨rfl, rfl⟩
    · rw [may_out a b (.inr hb)]
      have hs : stateB a = true := by simp [stateB, ha]
      have hs2 : stateB b = false := by simp [stateB]; omega
      clear ht ha hb
      go_enter Tryd.func9, Tryd.ntmps9
      go_wp2_with fail
      refine (isState_any a _).mono ?_
      rintro e w' ⟨rfl, rfl⟩
      rw [hs]
      go_wp2_with fail
      refine (isState_any b _).mono ?_
      rintro e w' ⟨rfl, rfl⟩
      rw [hs2]
      go_wp2
      go_ret
      exact ⟨rfl, rfl⟩
  · rw [may_out a b (.inl ha)]
    have hs : stateB a = false := by simp [stateB]; omega
    clear ht ha
    go_enter Tryd.func9, Tryd.ntmps9
    go_wp2_with fail
    refine (isState_any a _).mono ?_
    rintro e w' ⟨rfl, rfl⟩
    rw [hs]
    go_wp2
    go_ret
    exact ⟨rfl, rfl⟩

theorem refMay_any (a b : Int) (w : World) : Calls Tryd.prog 10 #[.int .i64 a, .int .i64 b] w fun e w' => e = .returned (.bool (mayB a b)) ∧ w' = w := by
  by_cases h0 : a = 0
  · subst h0
    go_enter Tryd.func10, Tryd.ntmps10
    go_wp2
    go_ret
    exact ⟨by simp [mayB], rfl⟩
  have b0 : (a == 0) = false := by simpa using h0
  by_cases h1 : a = 1
  · subst h1
    by_cases q2 : b = 2
    · subst q2
      go_enter Tryd.func10, Tryd.ntmps10
      go_wp2
      go_ret
      exact ⟨rfl, rfl⟩
    have p2 : (b == 2) = false := by simpa using q2
    by_cases q3 : b = 3
    · subst q3
      go_enter Tryd.func10, Tryd.ntmps10
      go_wp2
      go_ret
      exact ⟨rfl, rfl⟩
    have p3 : (b == 3) = false := by simpa using q3
    clear q2 q3
    go_enter Tryd.func10, Tryd.ntmps10
    go_wp2
    go_ret
    exact ⟨by simp [mayB, p2, p3], rfl⟩
  have b1 : (a == 1) = false := by simpa using h1
  by_cases h2 : a = 2
  · subst h2
    by_cases q3 : b = 3
    · subst q3
      go_enter Tryd.func10, Tryd.ntmps10
      go_wp2
      go_ret
      exact ⟨rfl, rfl⟩
    have p3 : (b == 3) = false := by simpa using q3
    clear q3
    go_enter Tryd.func10, Tryd.ntmps10
    go_wp2
    go_ret
    exact ⟨by simp [mayB, p3], rfl⟩
  have b2 : (a == 2) = false := by simpa using h2
  by_cases h3 : a = 3
  · subst h3
    by_cases q3 : b = 0
    · subst q3
      go_enter Tryd.func10, Tryd.ntmps10
      go_wp2
      go_ret
      exact ⟨rfl, rfl⟩
    have p3 : (b == 0) = false := by simpa using q3
    clear q3
    go_enter Tryd.func10, Tryd.ntmps10
    go_wp2
    go_ret
    exact ⟨by simp [mayB, p3], rfl⟩
  have b3 : (a == 3) = false := by simpa using h3
  have hm : mayB a b = false := by simp [mayB, h0, h1, h2, h3]
  rw [hm]
  clear hm h0 h1 h2 h3
  go_enter Tryd.func10, Tryd.ntmps10
  go_wp2
  go_ret
  exact ⟨rfl, rfl⟩

/-- States in a list, behind a struct of one field. -/
structure SlotsAt (T : TypeId) (w : World) (b : Nat) (v : Value) (l : List Int) : Prop where
  str : w.heap[b]? = some (.cells #[v] T (0, 0))
  sl : Sl w 3 1 v l.length (ints l)
  ne : v.ownBlock ≠ some b
  le : l.length ≤ 1024

abbrev ptrAt (b : Nat) : Value := .pointer (some ⟨b, 0, none⟩)

section
variable {T : TypeId} {w w' : World} {b : Nat} {v : Value} {l : List Int}

theorem SlotsAt.keep (h : SlotsAt T w b v l) {S : Nat → Prop} (hu : Upd S w w') (hb : ¬ S b) (hv : ∀ g, v.ownBlock = some g → ¬ S g) : SlotsAt T w' b v l :=
  ⟨(hu.block b (lt_of_block h.str) hb).trans h.str, h.sl.keep hu hv, h.ne, h.le⟩
theorem SlotsAt.new (h : SlotsAt T w b v l) (hu : Upd (fun _ => False) w w') : SlotsAt T w' b v l := h.keep hu (fun h => h) (fun _ _ h => h)

/-- One element of an owned list is turned. -/
theorem Sl.set {e : TypeId} {g off n cap : Nat} {l : List Int} (h : Sl w e 1 (.slice (some ⟨g, off, none⟩) n cap) n (ints l)) (i : Nat) (hi : i < n) (x : Int) :
    Sl (w.setCell ⟨g, off + i, none⟩ (.int .i64 x)) e 1 (.slice (some ⟨g, off, none⟩) n cap) n (ints (l.set i x)) := by
  obtain ⟨hl, ⟨h1, _⟩ | ⟨g', off', cap', cur, h1, hg, hn, hm, hs, hc⟩⟩ := h
  · cases h1
  · cases h1
    refine ⟨by simpa using hl, .inr ⟨g, off, cap, _, rfl, heap_setCell_same hg _ _, hn, hm, by simpa using hs, fun j u hj => ?_⟩⟩
    have hjl : j < l.length := by have := (List.getElem?_eq_some_iff.1 hj).1; simpa using this
    rw [get_ints (by simpa using hjl)] at hj
    cases hj
    by_cases hji : i = j
    · subst hji
      rw [Array.getElem?_setIfInBounds_self, if_pos (by omega)]
      simp
    · rw [Array.getElem?_setIfInBounds_ne (by omega), List.getElem_set_ne hji]
      exact hc j _ (get_ints hjl)

theorem SlotsAt.set {g off cap : Nat} (h : SlotsAt T w b (.slice (some ⟨g, off, none⟩) l.length cap) l) (i : Nat) (hi : i < l.length) (x : Int) :
    SlotsAt T (w.setCell ⟨g, off + i, none⟩ (.int .i64 x)) b (.slice (some ⟨g, off, none⟩) l.length cap) (l.set i x) ∧ Upd (ownS (.slice (some ⟨g, off, none⟩) l.length cap)) w (w.setCell ⟨g, off + i, none⟩ (.int .i64 x)) := by
  have hu : Upd (ownS (.slice (some ⟨g, off, none⟩) l.length cap)) w (w.setCell ⟨g, off + i, none⟩ (.int .i64 x)) := (upd_setCell w g (off + i) _).mono (fun k _ hk => by subst hk; rfl)
  refine ⟨⟨(hu.block b (lt_of_block h.str) (fun e => h.ne e)).trans h.str, ?_, h.ne, by simpa using h.le⟩, hu⟩
  have := h.sl.set i hi x
  rw [List.length_set]; exact this

/-- What a list's slot reads; nil lists aside. -/
theorem SlotsAt.at (h : SlotsAt T w b v l) {i : Nat} (hi : i < l.length) : ∃ g off cap, v = .slice (some ⟨g, off, none⟩) l.length cap ∧ w.cell? ⟨g, off + i, none⟩ = some (.int .i64 l[i]) ∧ w.frozen? ⟨g, off + i, none⟩ = false := by
  obtain ⟨g, off, cap, cur, rfl, hg, _, hc⟩ := h.sl.at (by omega)
  exact ⟨g, off, cap, rfl, by rw [cell_of_block hg]; exact hc i _ (get_ints hi), frozen_of_block hg _⟩
end

section
variable {w : World} {b : Nat} {v : Value} {l : List Int}

theorem state_nil (slot : Int) (w : World) : Calls Tryd.prog 17 #[.pointer none, .int .i64 slot] w fun e w' => e = .returned (.tuple #[.int .i64 0, .int .i64 2]) ∧ w' = w := by
  go_enter Tryd.func17, Tryd.ntmps17
  go_wp2
  go_ret2
  exact ⟨rfl, rfl⟩

theorem state_out (h : SlotsAt 49 w b v l) (slot : Int) (ho : slot < 0 ∨ (l.length : Int) ≤ slot) :
    Calls Tryd.prog 17 #[ptrAt b, .int .i64 slot] w fun e w' => e = .returned (.tuple #[.int .i64 0, .int .i64 10]) ∧ w' = w := by
  have hc0 := cell_of_block h.str 0
  simp at hc0
  have hle := h.le
  obtain ⟨ao, c, rfl⟩ := h.sl.rd.nil_iff
  clear h
  by_cases h0 : slot < 0
  · clear ho
    go_enter Tryd.func17, Tryd.ntmps17
    go_wp2
    go_ret2
    exact ⟨rfl, rfl⟩
  · have h1 : (l.length : Int) ≤ slot := by omega
    clear ho
    go_enter Tryd.func17, Tryd.ntmps17
    go_wp2
    go_ret2
    exact ⟨rfl, rfl⟩

theorem state_in (h : SlotsAt 49 w b v l) (i : Nat) (hi : i < l.length) :
    Calls Tryd.prog 17 #[ptrAt b, .int .i64 i] w fun e w' => e = .returned (.tuple #[.int .i64 l[i], .int .i64 0]) ∧ w' = w := by
  have hc0 := cell_of_block h.str 0
  simp at hc0
  have hle := h.le
  obtain ⟨g, off, cap, rfl, hc, hf⟩ := h.at hi
  clear h
  go_enter Tryd.func17, Tryd.ntmps17
  go_wp2
  go_ret2
  exact ⟨rfl, rfl⟩

theorem slen_any (h : SlotsAt 49 w b v l) :
    Calls Tryd.prog 24 #[ptrAt b] w fun e w' => e = .returned (.int .i64 l.length) ∧ w' = w := by
  have hc0 := cell_of_block h.str 0
  simp at hc0
  obtain ⟨ao, c, rfl⟩ := h.sl.rd.nil_iff
  clear h
  go_enter Tryd.func24, Tryd.ntmps24
  go_wp2
  go_ret
  exact ⟨rfl, rfl⟩

/-- What Turn answers, and comes to. -/
def turnCode (l : List Int) (slot state : Int) : Int :=
  if slot < 0 ∨ (l.length : Int) ≤ slot then 10 else if stateB state = false then 1 else if mayB (l.getD slot.toNat 0) state = false then 16 else 0
def turnList (l : List Int) (slot state : Int) : List Int := if turnCode l slot state = 0 then l.set slot.toNat state else l

theorem turn_any (h : SlotsAt 49 w b v l) (ht : Tur w) (slot state : Int) :
    Calls Tryd.prog 14 #[ptrAt b, .int .i64 slot, .int .i64 state] w fun e w' => e = .returned (.int .i64 (turnCode l slot state)) ∧
      SlotsAt 49 w' b v (turnList l slot state) ∧ Upd (ownS v) w w' := by
  have H := Lib.hid h
  have HT := Lib.hid ht
  clear ht
  by_cases h0 : slot < 0 ∨ (l.length : Int) ≤ slot
  · have hcode : turnCode l slot state = 10 := by simp [turnCode, h0]
    have hlist : turnList l slot state = l := by simp [turnList, hcode]
    rw [hcode, hlist]
    have H0 := Lib.hid h0
    clear h hcode hlist h0
    go_enter Tryd.func14, Tryd.ntmps14
    go_wp2_with fail
    refine (state_out H.out _ H0.out).mono ?_
    rintro e w' ⟨rfl, rfl⟩
    go_wp2
    go_ret
    exact ⟨rfl, H.out, Upd.refl _ _⟩
  · obtain ⟨i, rfl⟩ := Int.eq_ofNat_of_zero_le (show 0 ≤ slot by omega)
    have hi : i < l.length := by omega
    have hgd : l.getD i 0 = l[i] := by simp [hi]
    by_cases h1 : stateB state = false
    · have hcode : turnCode l i state = 1 := by simp only [turnCode, if_neg h0, if_pos h1]
      have hlist : turnList l i state = l := by simp [turnList, hcode]
      rw [hcode, hlist]
      have H1 := Lib.hid h1
      clear h hcode hlist h0 hgd h1
      go_enter Tryd.func14, Tryd.ntmps14
      go_wp2_with fail
      refine (state_in H.out i hi).mono ?_
      rintro e w' ⟨rfl, rfl⟩
      go_wp2_with fail
      refine (isState_any state _).mono ?_
      rintro e w' ⟨rfl, rfl⟩
      rw [H1.out]
      go_wp2
      go_ret
      exact ⟨rfl, H.out, Upd.refl _ _⟩
    · have h1' : stateB state = true := by simpa using h1
      by_cases h2 : mayB l[i] state = false
      · have hcode : turnCode l i state = 16 := by simp only [turnCode, if_neg h0, if_neg h1, Int.toNat_natCast, hgd, if_pos h2]
        have hlist : turnList l i state = l := by simp [turnList, hcode]
        rw [hcode, hlist]
        have H1 := Lib.hid h1'
        have H2 := Lib.hid h2
        clear h hcode hlist h0 hgd h1 h1' h2
        go_enter Tryd.func14, Tryd.ntmps14
        go_wp2_with fail
        refine (state_in H.out i hi).mono ?_
        rintro e w' ⟨rfl, rfl⟩
        go_wp2_with fail
        refine (isState_any state _).mono ?_
        rintro e w' ⟨rfl, rfl⟩
        rw [H1.out]
        go_wp2_with fail
        refine (may_any _ _ _ HT.out).mono ?_
        rintro e w' ⟨rfl, rfl⟩
        rw [H2.out]
        go_wp2
        go_ret
        exact ⟨rfl, H.out, Upd.refl _ _⟩
      · have h2' : mayB l[i] state = true := by simpa using h2
        have hcode : turnCode l i state = 0 := by simp only [turnCode, if_neg h0, if_neg h1, Int.toNat_natCast, hgd, if_neg h2]
        have hlist : turnList l i state = l.set i state := by simp only [turnList, hcode, if_true, Int.toNat_natCast]
        rw [hcode, hlist]
        have H1 := Lib.hid h1'
        have H2 := Lib.hid h2'
        have hc0 := cell_of_block h.str 0
        simp at hc0
        have hle := h.le
        obtain ⟨g, off, cap, rfl, hc, hf⟩ := h.at hi
        have HF := Lib.hid (H.out.set i hi state)
        clear h hcode hlist h0 hgd h1 h1' h2 h2'
        go_enter Tryd.func14, Tryd.ntmps14
        go_wp2_with fail
        refine (state_in H.out i hi).mono ?_
        rintro e w' ⟨rfl, rfl⟩
        go_wp2_with fail
        refine (isState_any state _).mono ?_
        rintro e w' ⟨rfl, rfl⟩
        rw [H1.out]
        go_wp2_with fail
        refine (may_any _ _ _ HT.out).mono ?_
        rintro e w' ⟨rfl, rfl⟩
        rw [H2.out]
        go_wp2
        go_ret
        exact ⟨rfl, HF.out.1, HF.out.2⟩
end
end Go.Proofs.YtolhlfahoooliaaDoor
