/- Which logs there are not, and that nil ones have nothing: for every place and every number of sectors. -/
import Derived.Test.YtdpoiaejhkfocaaGreatDoorG30
import Derived.Test.YtdpoiaejhkfocaaGreatDoorG05
namespace Go.Proofs.YtdpoiaejhkfocaaGreatDoor.logsErrs
open Go Go.RowKit Go.ChangeShapes Go.WideShapes Go.ChangeAt Go.Proofs.YtdpoiaejhkfocaaGreatDoor

theorem there_cases (base n : Int) : (thereB 20 base n = false ∧ base < 0) ∨ (thereB 20 base n = false ∧ 0 ≤ base ∧ n < 1) ∨ (thereB 20 base n = false ∧ 0 ≤ base ∧ 1 ≤ n ∧ 20 < n) ∨ (thereB 20 base n = false ∧ 0 ≤ base ∧ 1 ≤ n ∧ n ≤ 20 ∧ 20 - n < base) ∨ (thereB 20 base n = true ∧ 0 ≤ base ∧ 1 ≤ n ∧ n ≤ 20 ∧ base ≤ 20 - n) := by
  unfold thereB
  by_cases h1 : 0 ≤ base
  · by_cases h2 : 1 ≤ n
    · by_cases h3 : n ≤ 20
      · by_cases h4 : base ≤ 20 - n
        · right; right; right; right
          refine ⟨?_, h1, h2, h3, h4⟩
          simp [h1, h2, h3, h4]
        · right; right; right; left
          refine ⟨?_, h1, h2, h3, by omega⟩
          simp [h4]
      · right; right; left
        refine ⟨?_, h1, h2, by omega⟩
        simp [h3]
    · right; left
      refine ⟨?_, h1, by omega⟩
      simp [h2]
  · left
    refine ⟨?_, by omega⟩
    simp [h1]

theorem below_via {w a b : World} (h : Below w.heap.size w a) (k : Below a.heap.size a b) : Below w.heap.size w b := h.trans (k.mono h.size)
theorem below_alloc {w a b : World} {o : Obj} (h : Below w.heap.size w a) (k : Below (a.alloc o).heap.size (a.alloc o) b) : Below w.heap.size w b := below_via (h.alloc h.size o) k
set_option maxRecDepth 100000 in
set_option maxHeartbeats 4000000 in
theorem walk (base n : Int) (h1 : InR base) (h2 : InR n) (w : World) (nib : Nib w) (tur : Tur w) : Calls Tryz.prog 4 #[.int .i64 base, .int .i64 n] w fun e w' => e = .returned (.bool true) ∧ Below w.heap.size w w' := by
  have HT := Lib.hid (And.intro nib (And.intro tur (And.intro h1 h2)))
  unfold InR at h1 h2
  clear nib tur
  have hc := there_cases base n
  go_enter Tryz.func4, Tryz.ntmps4
  go_wp2_with fail
  refine (dnew_ok 20 (by omega) (by omega) _).mono ?_
  rintro e w1 ⟨d, rfl, hd, -, hb1⟩
  have HI := Lib.hid (lints_any hd base n HT.out.2.2.1 HT.out.2.2.2)
  rw [List.length_replicate] at HI
  have HB1 := Lib.hid hb1
  clear hd hb1
  go_upto_region 5 with (first
    | (go_at_call 18; refine HI.out.mono ?_; rintro e w2 ⟨x, rfl, hx, hb2, -⟩)
    | fail)
  have hB := Lib.hid (HB1.out.trans (hb2.mono HB1.out.size))
  clear hb2
  have hX : (x = none ∧ thereB 20 base n = false) ∨ (∃ a, x = some a ∧ thereB 20 base n = true) := by
    cases x with
    | none => exact .inl ⟨rfl, hx.symm⟩
    | some a => exact .inr ⟨a, rfl, hx.symm⟩
  clear hx
  have hb0 := HT.out.1
  have hk : Hid ((x = none → thereB 20 base n = false) ∧ (x ≠ none → thereB 20 base n = true)) := by
    rcases hX with ⟨rfl, h⟩ | ⟨a, rfl, h⟩
    · exact ⟨fun _ => h, fun e => absurd rfl e⟩
    · exact ⟨fun e => (by cases e), fun _ => h⟩
  clear hb0
  have hall : (x = none ∧ base < 0) ∨ (x = none ∧ 0 ≤ base ∧ n < 1) ∨ (x = none ∧ 0 ≤ base ∧ 1 ≤ n ∧ 20 < n) ∨ (x = none ∧ 0 ≤ base ∧ 1 ≤ n ∧ n ≤ 20 ∧ decide (base ≤ 20 - n) = false) ∨ (∃ y, x = some y ∧ 0 ≤ base ∧ 1 ≤ n ∧ n ≤ 20 ∧ base ≤ 20 - n) := by
    rcases hX with ⟨rfl, hb⟩ | ⟨y, rfl, hb⟩
    · rw [hb] at hc
      simp only [true_and, false_and, or_false, Bool.false_eq_true] at hc
      rcases hc with p1 | ⟨p1, p2⟩ | ⟨p1, p2, p3⟩ | ⟨p1, p2, p3, p4⟩
      · exact .inl ⟨rfl, p1⟩
      · exact .inr (.inl ⟨rfl, p1, p2⟩)
      · exact .inr (.inr (.inl ⟨rfl, p1, p2, p3⟩))
      · exact .inr (.inr (.inr (.inl ⟨rfl, p1, p2, p3, by simp; omega⟩)))
    · rw [hb] at hc
      simp only [true_and, false_and, false_or, Bool.true_eq_false] at hc
      exact .inr (.inr (.inr (.inr ⟨y, rfl, hc⟩)))
  have hcd : (if thereB 20 base n = true then (0 : Int) else 10) = if x = none then 10 else 0 := by
    rcases hX with ⟨rfl, hb⟩ | ⟨y, rfl, hb⟩
    · rw [hb]; rfl
    · rw [hb]; rfl
  rw [hcd]
  clear hcd hX hc hk
  rcases hall with ⟨rfl, p1⟩ | ⟨rfl, p1, p2⟩ | ⟨rfl, p1, p2, p3⟩ | ⟨rfl, p1, p2, p3, p4⟩ | ⟨x, rfl, p1, p2, p3, p4⟩
  all_goals
    go_upto_region 6 with fail
    try clear p4
    try clear p3
    try clear p2
    clear p1 h1 h2
    go_wp2_with (first
      | (go_at_call 18; refine (lints_nil base n _).mono ?_; rintro e w3 ⟨rfl, rfl⟩)
      | (go_at_call 19; refine (newI_noid d 0 1 _).mono ?_; rintro e w3 ⟨rfl, rfl⟩)
      | fail)
    refine (getI_nil 0 _).mono ?_
    rintro e w3 ⟨rfl, hb3⟩
    have hB3 := Lib.hid (below_via hB.out hb3)
    clear hb3
    go_wp2_with (first
      | (go_at_call 20; refine (allI_nil _).mono ?_; rintro e w4 ⟨rfl, rfl⟩)
      | fail)
    refine (open_nil _).mono ?_
    rintro e w4 ⟨rfl, hb4⟩
    have hB4 := Lib.hid (below_alloc hB3.out hb4)
    clear hb4
    go_wp2_with fail
    refine (next_nil _).mono ?_
    rintro e w5 ⟨rfl, hb5⟩
    have hB5 := Lib.hid (below_alloc hB4.out hb5)
    clear hb5
    go_wp2_with fail
    refine (thing_ok 0 0 _).mono ?_
    rintro e w6 ⟨rfl, hu6⟩
    have hB6 := Lib.hid (below_via hB5.out (Upd.below hu6))
    clear hu6
    go_wp2_with fail
    refine (putI_nil _ _).mono ?_
    rintro e w7 ⟨rfl, hb7⟩
    have hB7 := Lib.hid (below_via hB6.out hb7)
    clear hb7
    go_wp2_with (first
      | (go_at_call 24; refine (lenI_nil _).mono ?_; rintro e w8 ⟨rfl, rfl⟩)
      | fail)
    refine (check_nil _).mono ?_
    rintro e w9 ⟨rfl, hb9⟩
    have hB9 := Lib.hid (below_via hB7.out hb9)
    clear hb9
    go_wp2_with fail
    refine (awake17 _ (HT.out.1.below hB9.out) (HT.out.2.1.below hB9.out)).mono ?_
    rintro e w10 ⟨rfl, hb10⟩
    have hB10 := Lib.hid (below_via hB9.out hb10)
    clear hb10
    go_wp2
    go_ret
    exact ⟨rfl, hB10.out⟩
end Go.Proofs.YtdpoiaejhkfocaaGreatDoor.logsErrs
