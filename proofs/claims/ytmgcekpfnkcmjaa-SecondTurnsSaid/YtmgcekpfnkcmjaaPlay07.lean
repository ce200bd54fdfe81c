/- Calls as they came. -/
import Derived.Test.YtmgcekpfnkcmjaaAwake07
namespace Go.Proofs.Ytmgcekpfnkcmjaa
open Go Go.RowKit Go.ChangeShapes Go.WideShapes Go.ChangeAt

structure Op7 where
  ask : Int
  k : Int
  deriving Inhabited
def ops7 (l : List Op7) : List Value := l.flatMap fun o => [.int .i64 o.ask, .int .i64 o.k]
theorem cells_op7 : Try.prog.cellsOf 70 = 2 := by kernel_rfl
theorem ops7_at {l : List Op7} {k : Nat} (h : k < l.length) : (ops7 l)[k * 2]? = some (.int .i64 l[k].ask) ∧ (ops7 l)[k * 2 + 1]? = some (.int .i64 l[k].k) := by
  have h1 := flat_at (f := fun o : Op7 => [Value.int .i64 o.ask, .int .i64 o.k]) (k := 2) (fun _ => rfl) l k 0 (by omega) l[k] (by simp)
  have h2 := flat_at (f := fun o : Op7 => [Value.int .i64 o.ask, .int .i64 o.k]) (k := 2) (fun _ => rfl) l k 1 (by omega) l[k] (by simp)
  unfold ops7
  exact ⟨by simpa using h1, by simpa using h2⟩
theorem op7_cells {w : World} {v : Value} {l : List Op7} (h : Rd w 2 v l.length (ops7 l)) {k : Nat} (hk : k < l.length) : ∃ bl off c, v = .slice (some ⟨bl, off, none⟩) l.length c ∧ bl < w.heap.size ∧
    w.cell? ⟨bl, off + k * 2, none⟩ = some (.int .i64 l[k].ask) ∧ w.cell? ⟨bl, off + k * 2 + 1, none⟩ = some (.int .i64 l[k].k) := by
  obtain ⟨bl, off, c, rfl, hb, hc⟩ := h.at (by omega)
  obtain ⟨h0, h1⟩ := ops7_at hk
  exact ⟨bl, off, c, rfl, hb, hc _ _ h0, hc (k * 2 + 1) _ h1⟩
theorem inR_of_wf {x : Int} (h : (Lit.int .i64 x).wf = true) : InR x := by
  have e1 : IntKind.i64.min = -9223372036854775808 := by decide
  have e2 : IntKind.i64.max = 9223372036854775807 := by decide
  simp only [Lit.wf, e1, e2, Bool.and_eq_true, decide_eq_true_eq] at h
  unfold InR; omega

set_option maxRecDepth 100000 in
theorem opEl7 {H : Type} {enc : TypeId × Value → H} {W : World} (n : Nat) (cs : List Value) (x : DataW H × List MemPlace) (h : DataW.trod enc Try.prog W 0 (fun _ => true) true n 70 cs = some x) :
    ∃ o : Op7, cs = [.int .i64 o.ask, .int .i64 o.k] ∧ InR o.k := by
  obtain ⟨xs, m, _, rfl, hl, hlen, hf⟩ := DataW.trod_struct Try.underlying70 h
  rw [cells_op7] at hl
  match cs, hl, xs, hlen with
  | [c0, c1], _, [y0, y1], _ =>
    have h0 := hf 0 _ rfl
    have h1 := hf 1 _ rfl
    obtain ⟨a, ha, _, _⟩ := DataW.trod_int Try.underlying3 h0
    obtain ⟨b, hb, _, hw⟩ := DataW.trod_int Try.underlying3 h1
    cases ha; cases hb
    exact ⟨⟨a, b⟩, rfl, inR_of_wf hw⟩

set_option maxRecDepth 100000 in
/-- A slice of calls that came in. -/
theorem open_ops7 {H : Type} {enc : TypeId × Value → H} {W : World} {base : Nat} {v : Value} {d : DataW H} {p : List MemPlace} (hok : Value.okWide Try.prog W .any base 60 v)
    (h : DataW.Trod enc Try.prog W 0 (fun _ => true) true 60 v d p) : ∃ l : List Op7, Rd W 2 v l.length (ops7 l) ∧ ∀ o ∈ l, InR o.k :=
  open_rd (fun o : Op7 => [.int .i64 o.ask, .int .i64 o.k]) (fun o => InR o.k) (k := 2) (fun _ => rfl) (by decide) Try.underlying60 cells_op7 opEl7 hok h
/-- One call of 'does' with a clock of the document's of its own. -/
theorem does_step {w0 wr : World} {b N : Nat} {B : Nat} (hc : Cl (fun j => B ≤ j) wr b N) (hB : B ≤ wr.heap.size) (hN : N < maxLen) (a k : Int) (hk : InR k) (_ : Below B w0 wr) :
    Calls Try.prog 30 #[.pointer (some ⟨b, 0, none⟩), .pointer (some ⟨wr.heap.size, 0, none⟩), opV a k] (wr.alloc (.cells #[.slice none 0 0, .int .i64 0, .slice none 0 0, .int .i64 12, .int .i64 6] 68)) fun e w' =>
      (∃ bb, e = .returned (.bool bb)) ∧ Cl (fun j => B ≤ j) w' b (N + 1) ∧ Upd (fun j => B ≤ j) wr w' := by
  have hu : Upd (fun _ => False) wr (wr.alloc (.cells #[.slice none 0 0, .int .i64 0, .slice none 0 0, .int .i64 12, .int .i64 6] 68)) := (Upd.refl _ _).alloc _
  refine (does_cl (S := fun j => B ≤ j ∧ j ≠ wr.heap.size) (rb := wr.heap.size) ((hc.out (fun j hj h => ⟨h, by omega⟩)).new hu) (fun j hj => by simp at hj; exact ⟨by omega, by omega⟩) (heap_alloc_last wr _ rfl) (fun h => h.2 rfl) hN a k hk).mono ?_
  rintro e w' ⟨hb, hcl, hu2⟩
  exact ⟨hb, hcl.out (fun j _ h => h.1), (hu.mono (fun _ _ h => h.elim)).trans (hu2.mono (fun j _ h => h.elim (fun h => h.1) (fun e => by omega)))⟩
end Go.Proofs.Ytmgcekpfnkcmjaa
