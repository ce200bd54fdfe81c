/- Sets of ints in memory (maps to struct{}), as functions. -/
import Derived.Test.YtmgcekpfnkcmjaaSecDef
import Derived.Test.YtmgcekpfnkcmjaaMap
import Derived.Shelf.SlMaps.Clone
namespace Go.Proofs.Ytmgcekpfnkcmjaa
open Go Go.RowKit Go.Maps

/-- A set in block mb, of at most N entries, that holds what A says. -/
def SetAt (w : World) (mb N : Nat) (A : Int → Bool) : Prop :=
  ∃ D : DataW Unit, w.ownsMap Try.prog 3 unitElem mb N D ∧ ∀ s : Int, Maps.has D (.int .i64 s) = A s

theorem SetAt.lt {w : World} {mb N : Nat} {A : Int → Bool} (h : SetAt w mb N A) : mb < w.heap.size := by obtain ⟨D, h, _⟩ := h; exact h.lt
theorem SetAt.keep {w w' : World} {mb N : Nat} {A : Int → Bool} (h : SetAt w mb N A) {S : Nat → Prop} (hu : Upd S w w') (hs : ¬ S mb) : SetAt w' mb N A := by
  obtain ⟨D, ⟨es, clock, hb, r⟩, hf⟩ := h
  exact ⟨D, ⟨es, clock, (hu.block _ (lt_of_block hb) hs).trans hb, r⟩, hf⟩
theorem SetAt.mono {w : World} {mb N N' : Nat} {A : Int → Bool} (h : SetAt w mb N A) (hn : N ≤ N') : SetAt w mb N' A := by obtain ⟨D, h, hf⟩ := h; exact ⟨D, h.mono hn, hf⟩
theorem SetAt.made (w : World) : SetAt (w.alloc (.map #[] 0)) w.heap.size 0 (fun _ => false) :=
  ⟨.map [], World.ownsMap_made w _ _ _, fun s => rfl⟩

/-- A set, but for one. -/
def updB (A : Int → Bool) (x : Int) (v : Bool) : Int → Bool := fun s => if s = x then v else A s

/-- A key's range. -/
def InR (x : Int) : Prop := -9223372036854775808 ≤ x ∧ x < 9223372036854775808

theorem zeroU (w : World) : (zeroValue 116).run Try.prog w = .ok (.agg #[]) w := by
  exact Try.zeroValue116 w

theorem SetAt.look {w : World} {mb N : Nat} {A : Int → Bool} (h : SetAt w mb N A) {x : Int} (hx : InR x) :
    (Instr.lookup 111 (.map (some mb)) (.int .i64 x) true).run Try.prog w = .ok (.tuple #[.agg #[], .bool (A x)]) w := by
  obtain ⟨D, ho, hf⟩ := h
  obtain ⟨v, ps, hr, hv⟩ := ho.look_ok keyedI Try.underlying111 (zeroU w) unitElem_mk (keyI hx.1 hx.2)
  obtain ⟨rfl, _⟩ := unitElem_inv hv
  rw [hr, hf x]

theorem SetAt.drop {w : World} {mb N : Nat} {A : Int → Bool} (h : SetAt w mb N A) {x : Int} (hx : InR x) (ty : TypeId) :
    ∃ w', (Builtin.delete_ #[111, 3] ty #[.map (some mb), .int .i64 x]).run Try.prog w = .ok (.tuple #[]) w' ∧ SetAt w' mb N (updB A x false) ∧ Upd (fun j => j = mb) w w' ∧ w'.heap.size = w.heap.size := by
  obtain ⟨D, ho, hf⟩ := h
  obtain ⟨w', hr, ho', ht⟩ := ho.drop keyedI Try.underlying111 (keyI hx.1 hx.2) ty
  refine ⟨w', hr, ⟨_, ho', fun s => ?_⟩, upd_turned ht, turned_size ht⟩
  by_cases hs : s = x
  · subst hs
    simp [updB, has_del_same]
  · have hne : Lit.int .i64 s ≠ Lit.int .i64 x := fun e => hs (by injection e)
    simp only [updB, if_neg hs, has_del_other hne]
    exact hf s

theorem SetAt.store {w : World} {mb N : Nat} {A : Int → Bool} (h : SetAt w mb N A) {x : Int} (hx : InR x) (hn : N < maxLen) :
    ∃ w', (Instr.mapUpdate 111 (.map (some mb)) (.int .i64 x) (.agg #[])).run Try.prog w = .ok () w' ∧ SetAt w' mb (N + 1) (updB A x true) ∧ Upd (fun j => j = mb) w w' ∧ w'.heap.size = w.heap.size := by
  obtain ⟨D, ho, hf⟩ := h
  have hM := ho.isMap
  have hK : ∀ y : Int, WideAt.IsKeyLit (.int .i64 y) := fun _ => trivial
  obtain ⟨w', hr, ho', ht⟩ := ho.store (ps := []) (d := .agg []) keyedI Try.underlying111 hn (keyI hx.1 hx.2) unitElem_mk
  refine ⟨w', hr, ⟨_, ho', fun s => ?_⟩, upd_turned ht, turned_size ht⟩
  by_cases hs : s = x
  · subst hs
    simp only [updB, if_true]
    rw [has_put_same hM (hK _)]
  · have hne : Lit.int .i64 s ≠ Lit.int .i64 x := fun e => hs (by injection e)
    simp only [updB, if_neg hs, has_put_other hne]
    exact hf s

set_option maxRecDepth 100000 in
/-- 'maps.Clone'. -/
theorem sclone_any {w : World} {mb N : Nat} {A : Int → Bool} (h : SetAt w mb N A) :
    Calls Try.prog 73 #[.map (some mb)] w fun e w' => e = .returned (.map (some w.heap.size)) ∧ SetAt w' w.heap.size N A ∧ Below w.heap.size w w' := by
  obtain ⟨D, ⟨es, clock, hb, hF, hs, hD⟩, hf⟩ := h
  have hq := fun w => run_eql_map_nil_sl (P := Try.prog) w 111 _ _ (some mb) Try.underlying111
  have hend : SetAt (w.alloc (.map es clock)) w.heap.size N A := ⟨D, ⟨es, clock, (MapKept.heap_alloc w _).1, hF, hs, hD⟩, hf⟩
  have HE := Lib.hid hend
  clear hend hf hD hs hF
  go_enter Try.func73, Try.ntmps73
  go_wp2
  rw [run_callFunc_extern Try.func86 (by kernel_rfl) (by kernel_rfl) (by kernel_rfl) (e := Extern.MapsClone.clone) (by kernel_rfl), run_maps_clone_sl w 111 hb]
  simp only [Result.andThen]
  rw [Oper.upon_value]
  go_wp2
  rw [run_typeAssert_map_sl _ 111 _ _ _ _ Try.underlying111]
  simp only [Result.andThen]
  rw [Oper.upon_value]
  go_wp2
  go_ret
  exact ⟨rfl, HE.out, (Below.refl _ _).alloc (Nat.le_refl _) _⟩

set_option maxRecDepth 100000 in
theorem wasAsked_any {w : World} {mb N : Nat} {A : Int → Bool} (h : SetAt w mb N A) (k : Int) (hk : InR k) :
    Calls Try.prog 74 #[.map (some mb), .int .i64 k] w fun e w' => e = .returned (.bool (A k)) ∧ Below w.heap.size w w' := by
  have hmf : ∀ (fn : Fn) (first cap : Array Value) (w : World), (Instr.makeFunc fn first cap).run Try.prog w = .ok (.func fn first cap) w := fun _ _ _ _ => rfl
  have hl := (SetAt.keep h ((Upd.refl (fun _ => False) w).alloc (.cells #[.bool false] 4)) (fun h => h)).look hk
  clear h
  go_enter_defers Try.func74, Try.ntmps74
  go_wp2
  refine leaves_cons (f := 94) (args := #[.pointer (some ⟨w.heap.size, 0, none⟩)]) (by simp) (by simp [go_sem]) ?_
  refine (wasAsked_idle _ _).mono ?_
  rintro e u' w'' ⟨rfl, rfl, rfl⟩
  simp [Leaves, settle, results, Try.results74, go_sem]
  exact (Below.refl _ _).alloc (Nat.le_refl _) _
end Go.Proofs.Ytmgcekpfnkcmjaa
