/- IndexPlays where it has nothing to say. -/
import Derived.Test.YtmgcekpfnkcmjaaSame09
import Derived.Test.YtmgcekpfnkcmjaaAwake09
import Derived.Test.YtmgcekpfnkcmjaaOpen09
namespace Go.Proofs.Ytmgcekpfnkcmjaa.indexPlays
open Go Go.RowKit Go.ChangeShapes Go.WideShapes Go.ChangeAt Go.Proofs.Ytmgcekpfnkcmjaa

abbrev pairV (p q : Int) : Value := .agg #[.int .i64 p, .int .i64 q]
abbrev start (w : World) (p q f n : Int) : World := ((w.alloc (.cells #[.int .i64 p, .int .i64 q] 48)).alloc (.cells #[.int .i64 f, .int .i64 n] 41)).alloc (.cells #[.bool false] 4)
theorem start_below (w : World) (p q f n : Int) : Below w.heap.size w (start w p q f n) := (((Below.refl _ w).alloc (Nat.le_refl _) _).alloc (by simp) _).alloc (by simp; omega) _
theorem start_res (w : World) (p q f n : Int) : (start w p q f n).heap[w.heap.size + 2]? = some (.cells #[.bool false] 4) := heap_alloc_last _ _ (by simp)
theorem start_two (w : World) (p q f n : Int) : (start w p q f n).heap[w.heap.size]? = some (.cells #[.int .i64 p, .int .i64 q] 48) :=
  ((((Upd.refl (fun _ => False) _).alloc (.cells #[.int .i64 f, .int .i64 n] 41)).alloc (.cells #[.bool false] 4)).block _ (by simp) (fun h => h)).trans (heap_alloc_last w _ rfl)
theorem start_span (w : World) (p q f n : Int) : (start w p q f n).heap[w.heap.size + 1]? = some (.cells #[.int .i64 f, .int .i64 n] 41) :=
  (((Upd.refl (fun _ => False) _).alloc (.cells #[.bool false] 4)).block _ (by simp) (fun h => h)).trans (heap_alloc_last _ _ (by simp))

set_option maxRecDepth 100000 in
set_option maxHeartbeats 4000000 in
theorem early1 (p q : Int) (v : Value) (l : List Op9) (f n : Int) (w : World) (h : (20 < p ∧ p ≤ 4096) ∨ (20 < q ∧ q ≤ 1024)) :
    Calls Try.prog 5 #[pairV p q, v, spanV f n] w fun e w' => e = .returned (.bool true) ∧ Below w.heap.size w w' := by
  have HRE := Lib.hid (start_res w p q f n)
  have h' : (20 < p ∧ p ≤ 4096) ∨ (¬ 20 < p ∧ 20 < q ∧ q ≤ 1024) ∨ (20 < p ∧ ¬ p ≤ 4096 ∧ 20 < q ∧ q ≤ 1024) := by omega
  clear h
  rcases h' with ⟨h1, h2⟩ | ⟨h1, h2, h3⟩ | ⟨h1, h2, h3, h4⟩
  all_goals
    go_enter Try.func5, Try.ntmps5
    go_wp2_with fail
    refine (awake09 _).mono ?_
    rintro e w2 ⟨rfl, hb2⟩
    have hre2 := (hb2.block _ (lt_of_block HRE.out)).trans HRE.out
    have r0 := cell_of_block hre2 0
    have r1 := frozen_of_block hre2 0
    simp at r0
    have HRE2 := Lib.hid hre2
    clear hre2
    go_wp2
    have y0 := cell_of_block (heap_setCell_same HRE2.out 0 (.bool true)) 0
    simp at y0
    have hB := start_below w p q f n
    refine bodyPost_ret (v := .bool true) ?_ rfl ⟨rfl, (hB.trans (hb2.mono hB.size)).setCell (p := ⟨w.heap.size + 2, 0, none⟩) (by simp) _⟩
    simp [results, Try.results5, go_sem, y0]

set_option maxRecDepth 100000 in
set_option maxHeartbeats 4000000 in
theorem early2 (p q : Int) (v : Value) (l : List Op9) (f n : Int) (w : World) (h : ¬ ((20 < p ∧ p ≤ 4096) ∨ (20 < q ∧ q ≤ 1024))) (hb : p < 1 ∨ 4096 < p ∨ q < 1 ∨ 1024 < q) :
    Calls Try.prog 5 #[pairV p q, v, spanV f n] w fun e w' => e = .returned (.bool true) ∧ Below w.heap.size w w' := by
  have HRE := Lib.hid (start_res w p q f n)
  have hN := Lib.hid (inew_bad p q (start w p q f n) hb)
  have hp : (p < 1 ∧ ¬ 20 < p) ∨ (¬ p < 1 ∧ ¬ 20 < p ∧ ¬ 4096 < p) ∨ (¬ p < 1 ∧ 20 < p ∧ ¬ p ≤ 4096 ∧ 4096 < p) := by omega
  have hq : (q < 1 ∧ ¬ 20 < q) ∨ (¬ q < 1 ∧ ¬ 20 < q ∧ ¬ 1024 < q) ∨ (¬ q < 1 ∧ 20 < q ∧ ¬ q ≤ 1024 ∧ 1024 < q) := by omega
  clear h
  rcases hp with ⟨p1, p2⟩ | ⟨p1, p2, p3⟩ | ⟨p1, p2, p3, p4⟩ <;> rcases hq with ⟨q1, q2⟩ | ⟨q1, q2, q3⟩ | ⟨q1, q2, q3, q4⟩
  case inr.inl.inr.inl => omega
  all_goals
    clear hb
    go_enter Try.func5, Try.ntmps5
    go_wp2_with fail
    refine hN.out.mono ?_
    rintro e w1 ⟨rfl, rfl⟩
    go_wp2_with fail
    refine (awake09 _).mono ?_
    rintro e w2 ⟨rfl, hb2⟩
    have hre2 := (hb2.block _ (lt_of_block HRE.out)).trans HRE.out
    have r0 := cell_of_block hre2 0
    have r1 := frozen_of_block hre2 0
    simp at r0
    have HRE2 := Lib.hid hre2
    clear hre2
    go_wp2
    have y0 := cell_of_block (heap_setCell_same HRE2.out 0 (.bool true)) 0
    simp at y0
    have hB := start_below w p q f n
    refine bodyPost_ret (v := .bool true) ?_ rfl ⟨rfl, (hB.trans (hb2.mono hB.size)).setCell (p := ⟨w.heap.size + 2, 0, none⟩) (by simp) _⟩
    simp [results, Try.results5, go_sem, y0]

set_option maxRecDepth 100000 in
set_option maxHeartbeats 4000000 in
theorem early3 (p q : Nat) (v : Value) (l : List Op9) (f n : Int) (w : World) (hv : Rd w 4 v l.length (ops9 l)) (hp1 : 1 ≤ p) (hp2 : p ≤ 20) (hq1 : 1 ≤ q) (hq2 : q ≤ 20) (h : 80 < l.length) :
    Calls Try.prog 5 #[pairV p q, v, spanV f n] w fun e w' => e = .returned (.bool true) ∧ Below w.heap.size w w' := by
  have hle := hv.le
  unfold maxLen at hle
  obtain ⟨ao, c, rfl⟩ := hv.nil_iff
  clear hv
  have HRE := Lib.hid (start_res w p q f n)
  have HTW := Lib.hid (start_two w p q f n)
  have d1 : ¬ (20 : Int) < p := by omega
  have d2 : ¬ (20 : Int) < q := by omega
  have d3 : ¬ (p : Int) < 1 := by omega
  have d4 : ¬ (4096 : Int) < p := by omega
  have d5 : ¬ (q : Int) < 1 := by omega
  have d6 : ¬ (1024 : Int) < q := by omega
  have d7 : (80 : Int) < l.length := by omega
  go_enter Try.func5, Try.ntmps5
  go_wp2_with fail
  refine (inew_ok p q _ (by omega) (by omega) (by omega) (by omega)).mono ?_
  rintro e w1 ⟨b, xv, mb, rfl, _, hb, hmb, hfv, hB1⟩
  have htw1 := (hB1.block _ (lt_of_block HTW.out)).trans HTW.out
  have hre1 := (hB1.block _ (lt_of_block HRE.out)).trans HRE.out
  have t0 := cell_of_block htw1 0
  have t1 := cell_of_block htw1 1
  simp at t0 t1
  have HRE1 := Lib.hid hre1
  have HB1 := Lib.hid hB1
  clear htw1 hre1 hb hmb hfv hB1
  go_wp2_with fail
  refine (awake09 _).mono ?_
  rintro e w2 ⟨rfl, hb2⟩
  have hre2 := (hb2.block _ (lt_of_block HRE1.out)).trans HRE1.out
  have r0 := cell_of_block hre2 0
  have r1 := frozen_of_block hre2 0
  simp at r0
  have HRE2 := Lib.hid hre2
  clear hre2
  go_wp2
  have y0 := cell_of_block (heap_setCell_same HRE2.out 0 (.bool true)) 0
  simp at y0
  have hB := start_below w p q f n
  have hBB := hB.trans (HB1.out.mono hB.size)
  refine bodyPost_ret (v := .bool true) ?_ rfl ⟨rfl, (hBB.trans (hb2.mono hBB.size)).setCell (p := ⟨w.heap.size + 2, 0, none⟩) (by simp) _⟩
  simp [results, Try.results5, go_sem, y0]
end Go.Proofs.Ytmgcekpfnkcmjaa.indexPlays
