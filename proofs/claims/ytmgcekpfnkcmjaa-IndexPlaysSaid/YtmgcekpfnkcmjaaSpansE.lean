/- IndexSpans where it has nothing to say. -/
import Derived.Test.YtmgcekpfnkcmjaaSpan09
import Derived.Test.YtmgcekpfnkcmjaaAwake09
import Derived.Test.YtmgcekpfnkcmjaaOpen09
import Derived.Deep.RegionHeld3
namespace Go.Proofs.Ytmgcekpfnkcmjaa
open Go Go.RowKit Go.Shelf
theorem undFn9s : ∃ a b c, Try.prog.underlying 43 = some (.func a b c) := ⟨_, _, _, Try.underlying43⟩
theorem equalIn_func_nil9s (w : World) (d : Nat) (fn : Fn) (xs ys : Array Value) : (Op.equalIn (d + 1) 43 (.func fn xs ys) .nilFunc).run Try.prog w = .ok false w := by
  obtain ⟨a, b, c, h⟩ := undFn9s
  simp [Op.equalIn, run_underlying h]
theorem eql_func_nil9s (w : World) (fn : Fn) (xs ys : Array Value) : (binOp .eql 43 (.func fn xs ys) .nilFunc).run Try.prog w = .ok (.bool false) w := by
  simp only [binOp]
  simp [Op.equal, Op.maxDepth, equalIn_func_nil9s w 9999 fn xs ys]
end Go.Proofs.Ytmgcekpfnkcmjaa
namespace Go.Proofs.Ytmgcekpfnkcmjaa.indexSpans
open Go Go.RowKit Go.Shelf Go.ChangeShapes Go.WideShapes Go.ChangeAt Go.Proofs.Ytmgcekpfnkcmjaa
attribute [local go_sem] Oper.semAt_some

set_option maxRecDepth 100000 in
set_option maxHeartbeats 4000000 in
theorem early (v : Value) (l : List Op9) (f n a : Int) (w : World) (hv : Rd w 4 v l.length (ops9 l)) (h : 80 < l.length ∨ f < 0 ∨ 20 < f ∨ n < 0 ∨ 20 < n ∨ a < 0 ∨ n < a) :
    Calls Try.prog 4 #[v, spanV f n, .int .i64 a] w fun e w' => e = .returned (.bool true) ∧ Below w.heap.size w w' := by
  have hle := hv.le
  unfold maxLen at hle
  obtain ⟨ao, c, rfl⟩ := hv.nil_iff
  clear hv
  have hsp := (((Upd.refl (fun _ => False) (w.alloc (.cells #[.int .i64 f, .int .i64 n] 41))).alloc (.cells #[.bool false] 4)).block _ (by simp) (fun h => h)).trans (heap_alloc_last w (.cells #[.int .i64 f, .int .i64 n] 41) rfl)
  have hre := heap_alloc_last (w.alloc (.cells #[.int .i64 f, .int .i64 n] 41)) (.cells #[.bool false] 4) (n := w.heap.size + 1) (by simp)
  have hB0 := ((Below.refl _ w).alloc (Nat.le_refl _) (.cells #[.int .i64 f, .int .i64 n] 41)).alloc (by simp) (.cells #[.bool false] 4)
  have HSP := Lib.hid hsp
  have HRE := Lib.hid hre
  clear hsp hre
  have h' : (80 : Int) < l.length ∨ (¬ (80 : Int) < l.length ∧ (f < 0 ∨ (¬ f < 0 ∧ ((20 : Int) < f ∨ (¬ (20 : Int) < f ∧ (n < 0 ∨ (¬ n < 0 ∧ ((20 : Int) < n ∨ (¬ (20 : Int) < n ∧ (a < 0 ∨ (¬ a < 0 ∧ n < a))))))))))) := by omega
  clear h
  obtain h1 | ⟨h1, h2 | ⟨h2, h3 | ⟨h3, h4 | ⟨h4, h5 | ⟨h5, h6 | ⟨h6, h7⟩⟩⟩⟩⟩⟩ := h'
  all_goals
    go_enter Try.func4, Try.ntmps4
    go_wp2_with fail
    refine (inew_ok 12 6 _ (by decide) (by decide) (by decide) (by decide)).mono ?_
    rintro e w1 ⟨b, v, mb, rfl, _, hb, hmb, hfv, hB1⟩
    have hsp1 := (hB1.block _ (lt_of_block HSP.out)).trans HSP.out
    have hre1 := (hB1.block _ (lt_of_block HRE.out)).trans HRE.out
    have s0 := cell_of_block hsp1 0
    have s1 := cell_of_block hsp1 1
    simp at s0 s1
    have HB1 := hB0.trans (hB1.mono hB0.size)
    have HRE1 := Lib.hid hre1
    clear hsp1 hre1 hb hmb hfv hB1
    go_wp2_with fail
    refine (awake09 _).mono ?_
    rintro e w2 ⟨rfl, hb2⟩
    have hre2 := (hb2.block _ (lt_of_block HRE1.out)).trans HRE1.out
    have r0 := cell_of_block hre2 0
    have r1 := frozen_of_block hre2 0
    simp at r0
    have HRE2 := Lib.hid hre2
    clear hre2
    go_wp2
    have y0 := cell_of_block (heap_setCell_same HRE2.out 0 (.bool true)) 0
    simp at y0
    refine bodyPost_ret (v := .bool true) ?_ rfl ⟨rfl, (HB1.trans (hb2.mono HB1.size)).setCell (p := ⟨w.heap.size + 1, 0, none⟩) (by simp) _⟩
    simp [results, Try.results4, go_sem, y0]
end Go.Proofs.Ytmgcekpfnkcmjaa.indexSpans
