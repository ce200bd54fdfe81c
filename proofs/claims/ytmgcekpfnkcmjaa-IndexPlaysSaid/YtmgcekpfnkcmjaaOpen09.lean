/- The arguments as they came: a call, a span. -/
import Derived.Test.YtmgcekpfnkcmjaaPlay09
import Derived.Test.YtmgcekpfnkcmjaaIndexAll
namespace Go.Proofs.Ytmgcekpfnkcmjaa
open Go Go.RowKit Go.ChangeShapes Go.WideShapes Go.ChangeAt

set_option maxRecDepth 100000 in
theorem open_op9 {H : Type} {enc : TypeId × Value → H} {W : World} {base : Nat} {v : Value} {d : DataW H} {p : List MemPlace} (hok : Value.okWide Try.prog W .any base 32 v) (h : DataW.Trod enc Try.prog W 0 (fun _ => true) true 32 v d p) : ∃ o : Op9, v = op9V o := by
  have hok' : ∃ cs, v = .agg cs := by
    unfold Value.okWide at hok
    rw [Try.underlying32] at hok
    obtain ⟨cs, h1, _⟩ := hok
    exact ⟨cs, h1⟩
  obtain ⟨cs, rfl⟩ := hok'
  obtain ⟨fuel, hf⟩ := h
  obtain ⟨o, ho, _⟩ := opEl9 _ _ _ hf
  refine ⟨o, ?_⟩
  simp only [Value.cells] at ho
  have : cs = #[.int .i64 o.ask, .int .i64 o.blk, .int .i64 o.slot, .bool o.dirty] := by rw [← @Array.toArray_toList _ cs, ho]
  rw [this]

theorem cells_span9 : Try.prog.cellsOf 41 = 2 := by kernel_rfl
set_option maxRecDepth 100000 in
theorem open_span9 {H : Type} {enc : TypeId × Value → H} {W : World} {base : Nat} {v : Value} {d : DataW H} {p : List MemPlace} (hok : Value.okWide Try.prog W .any base 41 v) (h : DataW.Trod enc Try.prog W 0 (fun _ => true) true 41 v d p) : ∃ f n : Int, v = spanV f n := by
  have hok' : ∃ cs, v = .agg cs := by
    unfold Value.okWide at hok
    rw [Try.underlying41] at hok
    obtain ⟨cs, h1, _⟩ := hok
    exact ⟨cs, h1⟩
  obtain ⟨cs, rfl⟩ := hok'
  obtain ⟨fuel, hf⟩ := h
  obtain ⟨xs, m, _, _, hl, hlen, hi⟩ := DataW.trod_struct Try.underlying41 hf
  rw [cells_span9] at hl
  simp only [Value.cells] at hl hi
  match hc : cs.toList, hl, xs, hlen with
  | [c0, c1], _, [y0, y1], _ =>
    rw [hc] at hi
    have h0 := hi 0 _ rfl
    have h1 := hi 1 _ rfl
    obtain ⟨a, ha, _, _⟩ := DataW.trod_int Try.underlying3 h0
    obtain ⟨b, hb, _, _⟩ := DataW.trod_int Try.underlying3 h1
    cases ha; cases hb
    have e : cs = #[.int .i64 a, .int .i64 b] := by rw [← @Array.toArray_toList _ cs, hc]
    exact ⟨a, b, by rw [e]⟩
end Go.Proofs.Ytmgcekpfnkcmjaa
