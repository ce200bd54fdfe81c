/- Slots: New, Alloc, Copy; the document's New, Alloc, Turn, All. -/
import Derived.Test.YtolhlfahoooliaaDoorSlots
import Derived.WalkSpells
namespace Go.Proofs.YtolhlfahoooliaaDoor
open Go Go.RowKit

/-- The first free slot; the length where there is none. -/
def free (l : List Int) : Nat := l.findIdx (· == 0)
theorem free_le (l : List Int) : free l ≤ l.length := List.findIdx_le_length
theorem free_hit {l : List Int} {k : Nat} (h : k ≤ free l) (hk : k < l.length) (h0 : l[k] = 0) : free l = k := by
  rcases Nat.lt_or_ge k (free l) with hlt | hge
  · have := List.not_of_lt_findIdx hlt; simp [h0] at this
  · omega
theorem free_step {l : List Int} {k : Nat} (h : k ≤ free l) (hk : k < l.length) (h0 : l[k] ≠ 0) : k + 1 ≤ free l := by
  rcases Nat.lt_or_ge k (free l) with hlt | hge
  · exact hlt
  · exfalso
    have he : free l = k := by omega
    have hl : l.findIdx (· == 0) < l.length := by show free l < _; omega
    have h1 := List.findIdx_getElem (w := hl)
    have h2 : l[k] == 0 := by
      have : l.findIdx (· == 0) = k := he
      simp only [this] at h1
      exact h1
    exact h0 (by simpa using h2)

def allocVal (l : List Int) : Int := if free l < l.length then free l else 0
def allocCode (l : List Int) : Int := if free l < l.length then 0 else 17
def allocList (l : List Int) : List Int := l.set (free l) 1

theorem madeZeros (n : Nat) : madeCells #[Value.int .i64 0] (n * 1) = (ints (List.replicate n 0)).toArray := by
  apply Array.ext
  · simp [size_madeCells]
  · intro i h1 h2
    have : i % 1 = 0 := Nat.mod_one i
    simp [madeCells, ints, this]

theorem infoI : (Tryd.prog.info? 3).map (fun i => (i.zero, i.size, i.bytes)) = some (some (.int .i64 0), 1, 8) := by kernel_rfl

theorem snew_bad (n : Int) (w : World) (h : n < 1 ∨ 1024 < n) :
    Calls Tryd.prog 12 #[.int .i64 n] w fun e w' => e = .returned (.tuple #[.pointer none, .int .i64 24]) ∧ w' = w := by
  rcases h with h | h
  · go_enter Tryd.func12, Tryd.ntmps12
    go_wp2
    go_ret2
    exact ⟨rfl, rfl⟩
  · have h' : ¬ n < 1 := by omega
    go_enter Tryd.func12, Tryd.ntmps12
    go_wp2
    go_ret2
    exact ⟨rfl, rfl⟩

abbrev TS : TypeId := 49
abbrev TR : TypeId := 55

theorem snew_ok (n : Nat) (w : World) (h1 : 1 ≤ n) (h2 : n ≤ 1024) :
    Calls Tryd.prog 12 #[.int .i64 n] w fun e w' => e = .returned (.tuple #[ptrAt (w.heap.size + 1), .int .i64 0]) ∧
      SlotsAt TS w' (w.heap.size + 1) (.slice (some ⟨w.heap.size, 0, none⟩) n n) (List.replicate n 0) ∧ Below w.heap.size w w' ∧ w'.heap.size = w.heap.size + 2 := by
  obtain ⟨i0, hi, hz0, hz1, hz2⟩ := info_parts infoI
  have hmk : ∀ w : World, (Instr.makeSlice 34 (.int .i64 n) (.int .i64 n)).run Tryd.prog w = .ok (.slice (some ⟨w.heap.size, 0, none⟩) n n) (w.alloc (.cells (ints (List.replicate n 0)).toArray 3)) := by
    intro w
    have := run_make (P := Tryd.prog) w 34 3 i0 (.int .i64 0) Tryd.underlying34 hi hz0 .i64 .i64 n n (by omega) (by omega) (by rw [hz2]; omega) (by omega)
    rw [this]
    simp only [Int.toNat_natCast, hz1, Value.cells]
    rw [madeZeros]
  have h1' : ¬ (n : Int) < 1 := by omega
  have h2' : ¬ 1024 < (n : Int) := by omega
  clear hi hz0 hz1 hz2
  go_enter Tryd.func12, Tryd.ntmps12
  go_wp2
  go_ret2
  have ha : (w.alloc (.cells (ints (List.replicate n 0)).toArray 3)).heap[w.heap.size]? = some (.cells (ints (List.replicate n 0)).toArray 3) := heap_alloc_last w _ rfl
  refine ⟨rfl, ⟨heap_alloc_last _ _ (by simp), ?_, by simp [Value.ownBlock], by simpa using h2⟩, ((Below.refl _ _).alloc (Nat.le_refl _) _).alloc (by simp) _, by simp⟩
  refine ⟨by simp, .inr ⟨w.heap.size, 0, n, (ints (List.replicate n 0)).toArray, by simp, ?_, by simp, by unfold maxLen; omega, by simp, ?_⟩⟩
  · rw [Below.heap_alloc _ _ _ (by simp)]; exact ha
  · intro j u hj; simpa using hj

section
variable {w : World} {b : Nat} {v : Value} {l : List Int}

theorem alloc_nil (w : World) : Calls Tryd.prog 13 #[.pointer none] w fun e w' => e = .returned (.tuple #[.int .i64 0, .int .i64 2]) ∧ w' = w := by
  go_enter Tryd.func13, Tryd.ntmps13
  go_wp2
  go_step3
  go_wp2
  rw [Exit.noGoto_ret]
  go_ret2
  exact ⟨rfl, rfl⟩

set_option maxHeartbeats 1000000 in
theorem alloc_any (h : SlotsAt TS w b v l) :
    Calls Tryd.prog 13 #[ptrAt b] w fun e w' => e = .returned (.tuple #[.int .i64 (allocVal l), .int .i64 (allocCode l)]) ∧
      SlotsAt TS w' b v (allocList l) ∧ Upd (ownS v) w w' := by
  have hc0 := cell_of_block h.str 0
  simp at hc0
  have hle := h.le
  have H := Lib.hid h
  obtain ⟨ao, c, rfl⟩ := h.sl.rd.nil_iff
  clear h
  go_enter Tryd.func13, Tryd.ntmps13
  go_wp2
  go_step3
  go_wp2
  go_step3
  go_wp2
  go_loopg [4, 5, 15] (l.length + 1) (fun g fv ev i wr => ∃ k : Nat, k + g = l.length + 1 ∧ k ≤ l.length ∧ fv = .int .i64 0 ∧ ev = .int .i64 17 ∧ i = .int .i64 k ∧ k ≤ free l ∧ wr = w)
  case atStart => exact ⟨0, by omega, by omega, rfl, rfl, rfl, Nat.zero_le _, rfl⟩
  case round =>
    obtain ⟨k, hk, hkl, rfl, rfl, rfl, hf, rfl⟩ := hrel
    by_cases hlt : k < l.length
    · obtain ⟨g, off, cap, hv, hcell, hfz⟩ := H.out.at hlt
      cases hv
      by_cases h0 : l[k] = 0
      · have hfr := free_hit hf hlt h0
        have hb0 : (l[k] == 0) = true := by simpa using h0
        have hr1 : allocVal l = k := by simp [allocVal, hfr, hlt]
        have hr2 : allocCode l = 0 := by simp [allocCode, hfr, hlt]
        have hr3 : allocList l = l.set k 1 := by simp [allocList, hfr]
        have HF := Lib.hid (H.out.set k hlt 1)
        have HR : Hid (allocVal l = k ∧ allocCode l = 0 ∧ allocList l = l.set k 1) := ⟨hr1, hr2, hr3⟩
        clear hf hfr h0 hr1 hr2 hr3
        go_wp2
        rw [Exit.noGoto_ret]
        go_ret2
        exact ⟨by rw [HR.out.1, HR.out.2.1]; rfl, by rw [HR.out.2.2]; exact HF.out.1, HF.out.2⟩
      · have hb0 : (l[k] == 0) = false := by simpa using h0
        have hfs := free_step hf hlt h0
        clear hf h0
        go_wp2
        go_roundg (gk - 1)
        case measure => omega
        case rel => exact ⟨k + 1, by omega, by omega, rfl, rfl, by go_num, hfs, rfl⟩
    · obtain rfl : k = l.length := by omega
      have hfr : free l = l.length := Nat.le_antisymm (free_le l) hf
      have hr1 : allocVal l = 0 := by simp [allocVal, hfr]
      have hr2 : allocCode l = 17 := by simp [allocCode, hfr]
      have hr3 : allocList l = l := by simp only [allocList, hfr]; exact List.set_eq_of_length_le (Nat.le_refl _)
      have HR : Hid (allocVal l = 0 ∧ allocCode l = 17 ∧ allocList l = l) := ⟨hr1, hr2, hr3⟩
      clear hf hfr hr1 hr2 hr3
      go_wp2
      rw [Exit.noGoto_ret]
      go_ret2
      exact ⟨by rw [HR.out.1, HR.out.2.1]; rfl, by rw [HR.out.2.2]; exact H.out, Upd.refl _ _⟩

set_option maxHeartbeats 1000000 in
theorem refAlloc_any (h : SlotsAt TR w b v l) :
    Calls Tryd.prog 20 #[ptrAt b] w fun e w' => e = .returned (.tuple #[.int .i64 (allocVal l), .int .i64 (allocCode l)]) ∧
      SlotsAt TR w' b v (allocList l) ∧ Upd (ownS v) w w' := by
  have hc0 := cell_of_block h.str 0
  simp at hc0
  have hle := h.le
  have H := Lib.hid h
  obtain ⟨ao, c, rfl⟩ := h.sl.rd.nil_iff
  clear h
  go_enter Tryd.func20, Tryd.ntmps20
  go_wp2
  go_loopg [4] (l.length + 1) (fun g i wr => ∃ k : Nat, k + g = l.length + 1 ∧ k ≤ l.length ∧ i = .int .i64 k ∧ k ≤ free l ∧ wr = w)
  case atStart => exact ⟨0, by omega, by omega, rfl, Nat.zero_le _, rfl⟩
  case round =>
    obtain ⟨k, hk, hkl, rfl, hf, rfl⟩ := hrel
    by_cases hlt : k < l.length
    · obtain ⟨g, off, cap, hv, hcell, hfz⟩ := H.out.at hlt
      cases hv
      by_cases h0 : l[k] = 0
      · have hfr := free_hit hf hlt h0
        have hb0 : (l[k] == 0) = true := by simpa using h0
        have hr1 : allocVal l = k := by simp [allocVal, hfr, hlt]
        have hr2 : allocCode l = 0 := by simp [allocCode, hfr, hlt]
        have hr3 : allocList l = l.set k 1 := by simp [allocList, hfr]
        have HF := Lib.hid (H.out.set k hlt 1)
        have HR : Hid (allocVal l = k ∧ allocCode l = 0 ∧ allocList l = l.set k 1) := ⟨hr1, hr2, hr3⟩
        clear hf hfr h0 hr1 hr2 hr3
        go_wp2
        go_ret2
        exact ⟨by rw [HR.out.1, HR.out.2.1]; rfl, by rw [HR.out.2.2]; exact HF.out.1, HF.out.2⟩
      · have hb0 : (l[k] == 0) = false := by simpa using h0
        have hfs := free_step hf hlt h0
        clear hf h0
        go_wp2
        go_roundg (gk - 1)
        case measure => omega
        case rel => exact ⟨k + 1, by omega, by omega, by go_num, hfs, rfl⟩
    · obtain rfl : k = l.length := by omega
      have hfr : free l = l.length := Nat.le_antisymm (free_le l) hf
      have hr1 : allocVal l = 0 := by simp [allocVal, hfr]
      have hr2 : allocCode l = 17 := by simp [allocCode, hfr]
      have hr3 : allocList l = l := by simp only [allocList, hfr]; exact List.set_eq_of_length_le (Nat.le_refl _)
      have HR : Hid (allocVal l = 0 ∧ allocCode l = 17 ∧ allocList l = l) := ⟨hr1, hr2, hr3⟩
      clear hf hfr hr1 hr2 hr3
      go_wp2
      go_ret2
      exact ⟨by rw [HR.out.1, HR.out.2.1]; rfl, by rw [HR.out.2.2]; exact H.out, Upd.refl _ _⟩

/-- 'slices.Clone' of ints. -/
theorem clone_any {w : World} {v : Value} {l : List Int} (h : Rd w 1 v l.length (ints l)) (hle : l.length ≤ 4096) :
    Calls Tryd.prog 27 #[v] w fun e w' => ∃ v', e = .returned v' ∧ Sl w' 3 1 v' l.length (ints l) ∧ From w.heap.size v' ∧ Below w.heap.size w w' := by
  obtain ⟨i0, hi, hz0, hz1, hz2⟩ := info_parts infoI
  have H := Lib.hid h
  obtain ⟨hl, hm, ao, c, rfl, h0, _⟩ := h
  have q34 := fun (w : World) (a : Option Addr) (n c : Nat) => Lib.run_eql_slice_nil (P := Tryd.prog) w 34 3 a n c 0 0 Tryd.underlying34
  cases ao with
  | none =>
    have hn := h0 rfl
    obtain rfl : l = [] := List.eq_nil_of_length_eq_zero hn
    clear h0 hl
    go_enter Tryd.func27, Tryd.ntmps27
    go_wp2
    go_ret
    exact ⟨_, rfl, by simpa using Sl.nil _ _ _, From.nil _ _ _, Below.refl _ _⟩
  | some a =>
    clear h0 hl
    have hs0 : Sl (w.alloc (.cells #[] 3)) 3 1 (.slice (some ⟨w.heap.size, 0, none⟩) 0 0) 0 [] :=
      ⟨by simp, .inr ⟨w.heap.size, 0, 0, #[], rfl, heap_alloc_last _ _ rfl, by simp, by simp [maxLen], by simp, by simp⟩⟩
    have HR : Hid (Rd (w.alloc (.cells #[] 3)) 1 (.slice (some a) l.length c) l.length (ints l)) := H.out.keep ((Upd.refl (fun _ => False) _).alloc _) (fun _ _ h => h)
    go_enter Tryd.func27, Tryd.ntmps27
    go_wp2_with (at_builtin; refine wpList_append_sl rfl _ _ 34 rfl i0 (.int .i64 0) 8 Tryd.underlying34 hi hz0 hz1 hz2 rfl (by decide) rfl hs0 _ l.length (ints l) rfl HR.out (by simp [ints, Value.oneCell']) (by unfold maxLen; omega) (by omega) ?_)
    intro v' w2 hs2 hu2 hb2
    go_wp2
    go_ret
    refine ⟨_, rfl, by simpa using hs2, ?_, ?_⟩
    · exact hb2.ge (by simp) (by intro g hg; simp [Value.ownBlock] at hg; omega)
    · refine below_upd ((Below.refl _ _).alloc (Nat.le_refl _) _) hu2 (Nat.le_refl _) (by intro k hk; simp [ownS, Value.ownBlock] at hk; omega)

theorem copy_nil (w : World) : Calls Tryd.prog 16 #[.pointer none] w fun e w' => e = .returned (.pointer none) ∧ w' = w := by
  go_enter Tryd.func16, Tryd.ntmps16
  go_wp2
  go_ret
  exact ⟨rfl, rfl⟩

theorem copy_any {w : World} {b : Nat} {v : Value} {l : List Int} (h : SlotsAt 49 w b v l) :
    Calls Tryd.prog 16 #[ptrAt b] w fun e w' => ∃ b' v', e = .returned (ptrAt b') ∧ SlotsAt 49 w' b' v' l ∧ w.heap.size ≤ b' ∧ From w.heap.size v' ∧ Below w.heap.size w w' := by
  have hc0 := cell_of_block h.str 0
  simp at hc0
  have HR := Lib.hid h.sl.rd
  have hle := h.le
  clear h
  go_enter Tryd.func16, Tryd.ntmps16
  go_wp2_with fail
  refine (clone_any HR.out (by omega)).mono ?_
  rintro e w1 ⟨v', rfl, hs1, hf1, hb1⟩
  obtain ⟨ao, c, rfl⟩ := hs1.rd.nil_iff
  go_wp2
  go_ret
  refine ⟨_, _, rfl, ⟨heap_alloc_last _ _ rfl, hs1.keep ((Upd.refl (fun _ => False) _).alloc _) (fun _ _ h => h), ?_, hle⟩, hb1.size, hf1, hb1.alloc hb1.size _⟩
  intro e
  have := hs1.lt e
  omega
end
end Go.Proofs.YtolhlfahoooliaaDoor
