/- Maps from ints to ints, in memory, as functions. -/
import Derived.Test.YtmgcekpfnkcmjaaLaw
import Derived.Test.YtmgcekpfnkcmjaaPlaces
import Derived.Maps.Views
import Derived.Maps.OwnSet
import Derived.MapKept
namespace Go.Proofs.Ytmgcekpfnkcmjaa
open Go Go.RowKit Go.Maps

/-- A map in block mb, of at most N entries, that gives f. -/
def MapAt (w : World) (mb N : Nat) (f : Int → Option Nat) : Prop :=
  ∃ D : DataW Unit, w.ownsMap Try.prog 3 (plainElem Try.prog 3) mb N D ∧
    ∀ s : Int, Maps.has D (.int .i64 s) = (f s).isSome ∧ ∀ c, f s = some c → ∀ z, D.atKey (.int .i64 s) z = .lit (.int .i64 (c : Int))

theorem keyedI : Keyed Try.prog 3 := int_keyed Try.underlying3
theorem wfI {x : Int} (h1 : -9223372036854775808 ≤ x) (h2 : x < 9223372036854775808) : (Lit.int .i64 x).wf = true := by
  have e1 : IntKind.i64.min = -9223372036854775808 := by decide
  have e2 : IntKind.i64.max = 9223372036854775807 := by decide
  simp only [Lit.wf, e1, e2, Bool.and_eq_true, decide_eq_true_eq]
  omega
theorem keyI {x : Int} (h1 : -9223372036854775808 ≤ x) (h2 : x < 9223372036854775808) : keyOf Try.prog 3 (.int .i64 x) = some (.int .i64 x) := keyOf_int_mk Try.underlying3 (wfI h1 h2)

theorem MapAt.lt {w : World} {mb N : Nat} {f : Int → Option Nat} (h : MapAt w mb N f) : mb < w.heap.size := by obtain ⟨D, h, _⟩ := h; exact h.lt

theorem MapAt.keep {w w' : World} {mb N : Nat} {f : Int → Option Nat} (h : MapAt w mb N f) {S : Nat → Prop} (hu : Upd S w w') (hs : ¬ S mb) : MapAt w' mb N f := by
  obtain ⟨D, ⟨es, clock, hb, r⟩, hf⟩ := h
  exact ⟨D, ⟨es, clock, (hu.block _ (lt_of_block hb) hs).trans hb, r⟩, hf⟩
theorem MapAt.mono {w : World} {mb N N' : Nat} {f : Int → Option Nat} (h : MapAt w mb N f) (hn : N ≤ N') : MapAt w mb N' f := by obtain ⟨D, h, hf⟩ := h; exact ⟨D, h.mono hn, hf⟩

theorem MapAt.made (w : World) : MapAt (w.alloc (.map #[] 0)) w.heap.size 0 (fun _ => none) :=
  ⟨.map [], World.ownsMap_made w _ _ _, fun s => ⟨rfl, fun c h => by cases h⟩⟩

theorem upd_turned {w w' : World} {b : Nat} (h : w.mapTurned w' b) : Upd (fun j => j = b) w w' := by
  obtain ⟨a, b', c, d, e⟩ := h.grown
  exact ⟨a, b', c, d, fun i hi hs => e i hi (fun e => hs (by simpa using e))⟩

theorem turned_size {w w' : World} {b : Nat} (h : w.mapTurned w' b) : w'.heap.size = w.heap.size := by
  obtain ⟨es, clock, es', clock', hb, rfl⟩ := h
  simp [Go.ChangeMaps.setBlock]

theorem zeroI (w : World) : (zeroValue 3).run Try.prog w = .ok (.int .i64 0) w := by
  exact Try.zeroValue3 w

theorem MapAt.look {w : World} {mb N : Nat} {f : Int → Option Nat} (h : MapAt w mb N f) {x : Int} (h1 : -9223372036854775808 ≤ x) (h2 : x < 9223372036854775808) :
    (Instr.lookup 93 (.map (some mb)) (.int .i64 x) true).run Try.prog w = .ok (.tuple #[.int .i64 (((f x).getD 0 : Nat) : Int), .bool (f x).isSome]) w := by
  obtain ⟨D, ho, hf⟩ := h
  obtain ⟨v, ps, hr, hv⟩ := ho.look_ok keyedI Try.underlying93 (zeroI w) (plainElem_int Try.underlying3 (by decide)) (keyI h1 h2)
  obtain ⟨c, rfl, hc, hwc⟩ := plainElem_int_inv Try.underlying3 hv
  simp only [Prod.mk.injEq] at hc
  rw [hr, (hf x).1]
  have : c = (((f x).getD 0 : Nat) : Int) := by
    cases hx : f x with
    | none =>
      have h0 := (hf x).1
      rw [hx] at h0
      have := atKey_of_not_has (D := D) h0 (.lit (.int .i64 0))
      rw [this] at hc
      simp at hc
      simpa using hc.1.symm
    | some c' =>
      have := (hf x).2 c' hx (.lit (.int .i64 0))
      rw [this] at hc
      simp at hc
      simpa using hc.1.symm
  rw [this]

theorem MapAt.drop {w : World} {mb N : Nat} {f : Int → Option Nat} (h : MapAt w mb N f) {x : Int} (h1 : -9223372036854775808 ≤ x) (h2 : x < 9223372036854775808) (ty : TypeId) :
    ∃ w', (Builtin.delete_ #[93, 3] ty #[.map (some mb), .int .i64 x]).run Try.prog w = .ok (.tuple #[]) w' ∧ MapAt w' mb N (upd1 f x none) ∧ Upd (fun j => j = mb) w w' ∧ w'.heap.size = w.heap.size := by
  obtain ⟨D, ho, hf⟩ := h
  obtain ⟨w', hr, ho', ht⟩ := ho.drop keyedI Try.underlying93 (keyI h1 h2) ty
  refine ⟨w', hr, ⟨_, ho', fun s => ?_⟩, upd_turned ht, turned_size ht⟩
  by_cases hs : s = x
  · subst hs
    simp [upd1, has_del_same]
  · have hne : Lit.int .i64 s ≠ Lit.int .i64 x := fun e => hs (by injection e)
    simp only [upd1, if_neg hs, has_del_other hne]
    exact ⟨(hf s).1, fun c hc z => by rw [atKey_del_other hne]; exact (hf s).2 c hc z⟩

theorem MapAt.store {w : World} {mb N : Nat} {f : Int → Option Nat} (h : MapAt w mb N f) {x : Int} (h1 : -9223372036854775808 ≤ x) (h2 : x < 9223372036854775808) (c : Nat) (hc : c < 9223372036854775808) (hn : N < maxLen) :
    ∃ w', (Instr.mapUpdate 93 (.map (some mb)) (.int .i64 x) (.int .i64 (c : Int))).run Try.prog w = .ok () w' ∧ MapAt w' mb (N + 1) (upd1 f x (some c)) ∧ Upd (fun j => j = mb) w w' ∧ w'.heap.size = w.heap.size := by
  obtain ⟨D, ho, hf⟩ := h
  have hM := ho.isMap
  have hK : ∀ y : Int, WideAt.IsKeyLit (.int .i64 y) := fun _ => trivial
  obtain ⟨w', hr, ho', ht⟩ := ho.store (ps := []) (d := .lit (.int .i64 (c : Int))) keyedI Try.underlying93 hn (keyI h1 h2) (plainElem_int Try.underlying3 (wfI (by omega) (by omega)))
  refine ⟨w', hr, ⟨_, ho', fun s => ?_⟩, upd_turned ht, turned_size ht⟩
  by_cases hs : s = x
  · subst hs
    simp only [upd1]
    exact ⟨by rw [has_put_same hM (hK _)]; simp, fun c' hc' z => by simp at hc'; subst hc'; exact atKey_put_same hM (hK _) _ _⟩
  · have hne : Lit.int .i64 s ≠ Lit.int .i64 x := fun e => hs (by injection e)
    simp only [upd1, if_neg hs, has_put_other hne]
    exact ⟨(hf s).1, fun c hc z => by rw [atKey_put_other hne]; exact (hf s).2 c hc z⟩
end Go.Proofs.Ytmgcekpfnkcmjaa
