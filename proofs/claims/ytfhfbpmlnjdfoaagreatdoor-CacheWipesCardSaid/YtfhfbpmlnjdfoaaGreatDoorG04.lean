/- The plain law of places: which block is at a slot. Maps from ints to ints, in memory, as functions. Sets of ints in memory (maps to struct{}), as functions. Maps and sets of ints in memory: as many entries as there are keys in a range; clear. A ledger in memory: New, has, hasAny, Put, Scrub. slices.Clone, slices.Delete of one at []int. slices.Grow of nil, slices.Concat of two, at []int. -/
import Derived.Test.YtfhfbpmlnjdfoaaGreatDoorG01
import Derived.Test.YtfhfbpmlnjdfoaaGreatDoorG03
import Derived.Maps.Views
import Derived.Maps.OwnSet
import Derived.MapKept
import Derived.Shelf.SlMaps.Clone
import Derived.Maps.Range
import Derived.Deep.RegionLaw
import Derived.Lib.SliceRun
import Derived.Lib.AppendZeros
namespace Go.Proofs.YtfhfbpmlnjdfoaaGreatDoor
def upd1 (f : Int → Option Nat) (s : Int) (o : Option Nat) : Int → Option Nat := fun x => if x = s then o else f x
def atOf (ps : List (Int × Bool)) (s : Int) : Option Nat := if s < 0 then none else ps.findIdx? (fun p => p.1 == s)
structure Good (ps : List (Int × Bool)) (slots : Nat) : Prop where
  each : ∀ k (h : k < ps.length), ps[k] = (-1, false) ∨ (0 ≤ ps[k].1 ∧ ps[k].1 < slots)
  inj : ∀ i j (hi : i < ps.length) (hj : j < ps.length), 0 ≤ ps[i].1 → ps[i].1 = ps[j].1 → i = j
theorem atOf_some {ps : List (Int × Bool)} {s : Int} {k : Nat} (h : atOf ps s = some k) : 0 ≤ s ∧ ∃ h : k < ps.length, ps[k].1 = s := by
  unfold atOf at h
  split at h
  · cases h
  · rw [List.findIdx?_eq_some_iff_getElem] at h
    obtain ⟨hk, h1, _⟩ := h
    exact ⟨by omega, hk, by simpa using h1⟩
theorem atOf_none {ps : List (Int × Bool)} {s : Int} (h : atOf ps s = none) (hs : 0 ≤ s) {k : Nat} (hk : k < ps.length) : ps[k].1 ≠ s := by
  unfold atOf at h
  rw [if_neg (by omega), List.findIdx?_eq_none_iff] at h
  have := h ps[k] (List.getElem_mem hk)
  simpa using this
theorem Good.at {ps : List (Int × Bool)} {slots : Nat} (h : Good ps slots) {k : Nat} (hk : k < ps.length) (h0 : 0 ≤ ps[k].1) : atOf ps ps[k].1 = some k := by
  cases ha : atOf ps ps[k].1 with
  | none => exact absurd rfl (atOf_none ha h0 hk)
  | some j =>
    obtain ⟨_, hj, he⟩ := atOf_some ha
    rw [h.inj k j hk hj h0 he.symm]
theorem Good.iff {ps : List (Int × Bool)} {slots : Nat} (h : Good ps slots) {s : Int} {k : Nat} : atOf ps s = some k ↔ 0 ≤ s ∧ ∃ h : k < ps.length, ps[k].1 = s :=
  ⟨atOf_some, fun ⟨h0, hk, he⟩ => by subst he; exact h.at hk h0⟩
theorem opt_ext {α : Type} {o p : Option α} (h : ∀ a, o = some a ↔ p = some a) : o = p := by
  cases o with
  | none => cases p with
    | none => rfl
    | some b => exact absurd ((h b).2 rfl) (by simp)
  | some a => exact ((h a).1 rfl).symm
theorem Good.start (n slots : Nat) : Good (List.replicate n (-1, false)) slots :=
  ⟨fun k h => .inl (by simp), fun i j hi hj h0 _ => by simp at h0⟩
theorem atOf_start (n : Nat) : atOf (List.replicate n (-1, false)) = fun _ => none := by
  funext s
  cases h : atOf (List.replicate n (-1, false)) s with
  | none => rfl
  | some k =>
    obtain ⟨h0, hk, he⟩ := atOf_some h
    simp at he
    omega
section
variable {ps : List (Int × Bool)} {slots k : Nat}
theorem Good.drop (h : Good ps slots) (k : Nat) : Good (ps.set k (-1, false)) slots := by
  refine ⟨fun i hi => ?_, fun i j hi hj h0 he => ?_⟩
  · rw [List.getElem_set]
    split
    · exact .inl rfl
    · exact h.each i (by simpa using hi)
  · rw [List.getElem_set] at h0 he
    rw [List.getElem_set] at he
    by_cases h1 : k = i
    · simp [h1] at h0
    · by_cases h2 : k = j
      · rw [if_neg h1, if_pos h2] at he
        rw [if_neg h1] at h0
        simp at he
        omega
      · rw [if_neg h1, if_neg h2] at he
        rw [if_neg h1] at h0
        exact h.inj i j (by simpa using hi) (by simpa using hj) h0 he
theorem Good.atOf_drop (h : Good ps slots) (hk : k < ps.length) : atOf (ps.set k (-1, false)) = upd1 (atOf ps) ps[k].1 none := by
  funext s
  refine opt_ext fun a => ?_
  rw [(h.drop k).iff]
  unfold upd1
  constructor
  · rintro ⟨h0, ha, he⟩
    rw [List.getElem_set] at he
    split at he
    · simp at he; omega
    · rename_i hne
      have ha' : a < ps.length := by simpa using ha
      subst he
      split
      · rename_i e
        exact absurd (h.inj a k ha' hk h0 e) (fun e => hne e.symm)
      · exact h.at ha' h0
  · intro e
    split at e
    · cases e
    · rename_i hne
      obtain ⟨h0, ha, he⟩ := atOf_some e
      refine ⟨h0, by simpa using ha, ?_⟩
      rw [List.getElem_set]
      split
      · rename_i e2
        subst e2
        exact absurd he.symm hne
      · exact he
def mayPut (ps : List (Int × Bool)) (k : Nat) (s : Int) : Prop := atOf ps s = none ∨ atOf ps s = some k
theorem mayPut_ne (h : Good ps slots) {s : Int} (hm : mayPut ps k s) (h0 : 0 ≤ s) {i : Nat} (hi : i < ps.length) (hne : i ≠ k) : ps[i].1 ≠ s := by
  rcases hm with hm | hm
  · exact atOf_none hm h0 hi
  · intro e
    subst e
    have := h.at hi h0
    rw [this] at hm
    exact hne (by injection hm)
theorem Good.put (h : Good ps slots) (_ : k < ps.length) {s : Int} (d : Bool) (h0 : 0 ≤ s) (h1 : s < slots) (hm : mayPut ps k s) : Good (ps.set k (s, d)) slots := by
  refine ⟨fun i hi => ?_, fun i j hi hj h2 he => ?_⟩
  · rw [List.getElem_set]
    split
    · exact .inr ⟨h0, h1⟩
    · exact h.each i (by simpa using hi)
  · have hi' : i < ps.length := by simpa using hi
    have hj' : j < ps.length := by simpa using hj
    rw [List.getElem_set] at h2 he
    rw [List.getElem_set] at he
    by_cases e1 : k = i
    · by_cases e2 : k = j
      · exact e1.symm.trans e2
      · rw [if_pos e1, if_neg e2] at he
        exact absurd he.symm (mayPut_ne h hm h0 hj' (fun e => e2 e.symm))
    · by_cases e2 : k = j
      · rw [if_neg e1, if_pos e2] at he
        exact absurd he (mayPut_ne h hm h0 hi' (fun e => e1 e.symm))
      · rw [if_neg e1, if_neg e2] at he
        rw [if_neg e1] at h2
        exact h.inj i j hi' hj' h2 he
theorem Good.atOf_put (h : Good ps slots) (hk : k < ps.length) {s : Int} (d : Bool) (h0 : 0 ≤ s) (h1 : s < slots) (hm : mayPut ps k s) : atOf (ps.set k (s, d)) = upd1 (upd1 (atOf ps) ps[k].1 none) s (some k) := by
  funext x
  refine opt_ext fun a => ?_
  rw [(h.put hk d h0 h1 hm).iff]
  simp only [upd1]
  constructor
  · rintro ⟨hx, ha, he⟩
    have ha' : a < ps.length := by simpa using ha
    rw [List.getElem_set] at he
    by_cases e : k = a
    · rw [if_pos e] at he
      simp at he
      rw [if_pos he.symm, e]
    · rw [if_neg e] at he
      subst he
      rw [if_neg (mayPut_ne h hm h0 ha' (fun e' => e e'.symm))]
      split
      · rename_i e3
        exact absurd (h.inj a k ha' hk hx e3) (fun e' => e e'.symm)
      · exact h.at ha' hx
  · intro e
    by_cases hxs : x = s
    · rw [if_pos hxs] at e
      cases e
      refine ⟨by omega, by simpa using hk, ?_⟩
      rw [List.getElem_set, if_pos rfl]
      exact hxs.symm
    · rw [if_neg hxs] at e
      split at e
      · cases e
      · rename_i hne
        obtain ⟨hx, ha, he⟩ := atOf_some e
        refine ⟨hx, by simpa using ha, ?_⟩
        rw [List.getElem_set]
        split
        · rename_i e2
          subst e2
          exact absurd he.symm hne
        · exact he
theorem Good.clean (h : Good ps slots) (hk : k < ps.length) (h0 : 0 ≤ ps[k].1) : Good (ps.set k (ps[k].1, false)) slots := by
  refine ⟨fun i hi => ?_, fun i j hi hj h2 he => ?_⟩
  · rw [List.getElem_set]
    split
    · rcases h.each k hk with e | e
      · rw [e] at h0; simp at h0
      · exact .inr e
    · exact h.each i (by simpa using hi)
  · have e1 : ∀ (x : Nat) (hx : x < (ps.set k (ps[k].1, false)).length), ((ps.set k (ps[k].1, false))[x]).1 = (ps[x]'(by simpa using hx)).1 := by
      intro x hx
      rw [List.getElem_set]
      split
      · rename_i e; subst e; rfl
      · rfl
    rw [e1] at h2 he
    rw [e1] at he
    exact h.inj i j (by simpa using hi) (by simpa using hj) h2 he
theorem Good.atOf_clean (h : Good ps slots) (hk : k < ps.length) (h0 : 0 ≤ ps[k].1) : atOf (ps.set k (ps[k].1, false)) = atOf ps := by
  funext x
  refine opt_ext fun a => ?_
  rw [(h.clean hk h0).iff, h.iff]
  have e1 : ∀ (x : Nat) (hx : x < (ps.set k (ps[k].1, false)).length), ((ps.set k (ps[k].1, false))[x]).1 = (ps[x]'(by simpa using hx)).1 := by
    intro x hx
    rw [List.getElem_set]
    split
    · rename_i e; subst e; rfl
    · rfl
  constructor
  · rintro ⟨hx, ha, he⟩
    rw [e1] at he
    exact ⟨hx, by simpa using ha, he⟩
  · rintro ⟨hx, ha, he⟩
    exact ⟨hx, by simpa using ha, by rw [e1]; exact he⟩
end
end Go.Proofs.YtfhfbpmlnjdfoaaGreatDoor
namespace Go.Proofs.YtfhfbpmlnjdfoaaGreatDoor
open Go Go.RowKit Go.Maps
def MapAt (w : World) (mb N : Nat) (f : Int → Option Nat) : Prop :=
  ∃ D : DataW Unit, w.ownsMap Tryz.prog 3 (plainElem Tryz.prog 3) mb N D ∧
    ∀ s : Int, Maps.has D (.int .i64 s) = (f s).isSome ∧ ∀ c, f s = some c → ∀ z, D.atKey (.int .i64 s) z = .lit (.int .i64 (c : Int))
theorem keyedI : Keyed Tryz.prog 3 := int_keyed Tryz.underlying3
theorem wfI {x : Int} (h1 : -9223372036854775808 ≤ x) (h2 : x < 9223372036854775808) : (Lit.int .i64 x).wf = true := by
  have e1 : IntKind.i64.min = -9223372036854775808 := by decide
  have e2 : IntKind.i64.max = 9223372036854775807 := by decide
  simp only [Lit.wf, e1, e2, Bool.and_eq_true, decide_eq_true_eq]
  omega
theorem keyI {x : Int} (h1 : -9223372036854775808 ≤ x) (h2 : x < 9223372036854775808) : keyOf Tryz.prog 3 (.int .i64 x) = some (.int .i64 x) := keyOf_int_mk Tryz.underlying3 (wfI h1 h2)
theorem MapAt.lt {w : World} {mb N : Nat} {f : Int → Option Nat} (h : MapAt w mb N f) : mb < w.heap.size := by obtain ⟨D, h, _⟩ := h; exact h.lt
theorem MapAt.keep {w w' : World} {mb N : Nat} {f : Int → Option Nat} (h : MapAt w mb N f) {S : Nat → Prop} (hu : Upd S w w') (hs : ¬ S mb) : MapAt w' mb N f := by
  obtain ⟨D, ⟨es, clock, hb, r⟩, hf⟩ := h
  exact ⟨D, ⟨es, clock, (hu.block _ (lt_of_block hb) hs).trans hb, r⟩, hf⟩
theorem MapAt.mono {w : World} {mb N N' : Nat} {f : Int → Option Nat} (h : MapAt w mb N f) (hn : N ≤ N') : MapAt w mb N' f := by obtain ⟨D, h, hf⟩ := h; exact ⟨D, h.mono hn, hf⟩
theorem MapAt.made (w : World) : MapAt (w.alloc (.map #[] 0)) w.heap.size 0 (fun _ => none) :=
  ⟨.map [], World.ownsMap_made w _ _ _, fun s => ⟨rfl, fun c h => by cases h⟩⟩
theorem upd_turned {w w' : World} {b : Nat} (h : w.mapTurned w' b) : Upd (fun j => j = b) w w' := by
  obtain ⟨a, b', c, d, e⟩ := h.grown
  exact ⟨a, b', c, d, fun i hi hs => e i hi (fun e => hs (by simpa using e))⟩
theorem turned_size {w w' : World} {b : Nat} (h : w.mapTurned w' b) : w'.heap.size = w.heap.size := by
  obtain ⟨es, clock, es', clock', hb, rfl⟩ := h
  simp [Go.ChangeMaps.setBlock]
theorem zeroI (w : World) : (zeroValue 3).run Tryz.prog w = .ok (.int .i64 0) w := by
  exact Tryz.zeroValue3 w
theorem MapAt.look {w : World} {mb N : Nat} {f : Int → Option Nat} (h : MapAt w mb N f) {x : Int} (h1 : -9223372036854775808 ≤ x) (h2 : x < 9223372036854775808) :
    (Instr.lookup 116 (.map (some mb)) (.int .i64 x) true).run Tryz.prog w = .ok (.tuple #[.int .i64 (((f x).getD 0 : Nat) : Int), .bool (f x).isSome]) w := by
  obtain ⟨D, ho, hf⟩ := h
  obtain ⟨v, ps, hr, hv⟩ := ho.look_ok keyedI Tryz.underlying116 (zeroI w) (plainElem_int Tryz.underlying3 (by decide)) (keyI h1 h2)
  obtain ⟨c, rfl, hc, hwc⟩ := plainElem_int_inv Tryz.underlying3 hv
  simp only [Prod.mk.injEq] at hc
  rw [hr, (hf x).1]
  have : c = (((f x).getD 0 : Nat) : Int) := by
    cases hx : f x with
    | none =>
      have h0 := (hf x).1
      rw [hx] at h0
      have := atKey_of_not_has (D := D) h0 (.lit (.int .i64 0))
      rw [this] at hc
      simp at hc
      simpa using hc.1.symm
    | some c' =>
      have := (hf x).2 c' hx (.lit (.int .i64 0))
      rw [this] at hc
      simp at hc
      simpa using hc.1.symm
  rw [this]
theorem MapAt.drop {w : World} {mb N : Nat} {f : Int → Option Nat} (h : MapAt w mb N f) {x : Int} (h1 : -9223372036854775808 ≤ x) (h2 : x < 9223372036854775808) (ty : TypeId) :
    ∃ w', (Builtin.delete_ #[116, 3] ty #[.map (some mb), .int .i64 x]).run Tryz.prog w = .ok (.tuple #[]) w' ∧ MapAt w' mb N (upd1 f x none) ∧ Upd (fun j => j = mb) w w' ∧ w'.heap.size = w.heap.size := by
  obtain ⟨D, ho, hf⟩ := h
  obtain ⟨w', hr, ho', ht⟩ := ho.drop keyedI Tryz.underlying116 (keyI h1 h2) ty
  refine ⟨w', hr, ⟨_, ho', fun s => ?_⟩, upd_turned ht, turned_size ht⟩
  by_cases hs : s = x
  · subst hs
    simp [upd1, has_del_same]
  · have hne : Lit.int .i64 s ≠ Lit.int .i64 x := fun e => hs (by injection e)
    simp only [upd1, if_neg hs, has_del_other hne]
    exact ⟨(hf s).1, fun c hc z => by rw [atKey_del_other hne]; exact (hf s).2 c hc z⟩
theorem MapAt.store {w : World} {mb N : Nat} {f : Int → Option Nat} (h : MapAt w mb N f) {x : Int} (h1 : -9223372036854775808 ≤ x) (h2 : x < 9223372036854775808) (c : Nat) (hc : c < 9223372036854775808) (hn : N < maxLen) :
    ∃ w', (Instr.mapUpdate 116 (.map (some mb)) (.int .i64 x) (.int .i64 (c : Int))).run Tryz.prog w = .ok () w' ∧ MapAt w' mb (N + 1) (upd1 f x (some c)) ∧ Upd (fun j => j = mb) w w' ∧ w'.heap.size = w.heap.size := by
  obtain ⟨D, ho, hf⟩ := h
  have hM := ho.isMap
  have hK : ∀ y : Int, WideAt.IsKeyLit (.int .i64 y) := fun _ => trivial
  obtain ⟨w', hr, ho', ht⟩ := ho.store (ps := []) (d := .lit (.int .i64 (c : Int))) keyedI Tryz.underlying116 hn (keyI h1 h2) (plainElem_int Tryz.underlying3 (wfI (by omega) (by omega)))
  refine ⟨w', hr, ⟨_, ho', fun s => ?_⟩, upd_turned ht, turned_size ht⟩
  by_cases hs : s = x
  · subst hs
    simp only [upd1]
    exact ⟨by rw [has_put_same hM (hK _)]; simp, fun c' hc' z => by simp at hc'; subst hc'; exact atKey_put_same hM (hK _) _ _⟩
  · have hne : Lit.int .i64 s ≠ Lit.int .i64 x := fun e => hs (by injection e)
    simp only [upd1, if_neg hs, has_put_other hne]
    exact ⟨(hf s).1, fun c hc z => by rw [atKey_put_other hne]; exact (hf s).2 c hc z⟩
def SetAt (w : World) (mb N : Nat) (A : Int → Bool) : Prop :=
  ∃ D : DataW Unit, w.ownsMap Tryz.prog 3 unitElem mb N D ∧ ∀ s : Int, Maps.has D (.int .i64 s) = A s
theorem SetAt.lt {w : World} {mb N : Nat} {A : Int → Bool} (h : SetAt w mb N A) : mb < w.heap.size := by obtain ⟨D, h, _⟩ := h; exact h.lt
theorem SetAt.keep {w w' : World} {mb N : Nat} {A : Int → Bool} (h : SetAt w mb N A) {S : Nat → Prop} (hu : Upd S w w') (hs : ¬ S mb) : SetAt w' mb N A := by
  obtain ⟨D, ⟨es, clock, hb, r⟩, hf⟩ := h
  exact ⟨D, ⟨es, clock, (hu.block _ (lt_of_block hb) hs).trans hb, r⟩, hf⟩
theorem SetAt.mono {w : World} {mb N N' : Nat} {A : Int → Bool} (h : SetAt w mb N A) (hn : N ≤ N') : SetAt w mb N' A := by obtain ⟨D, h, hf⟩ := h; exact ⟨D, h.mono hn, hf⟩
theorem SetAt.made (w : World) : SetAt (w.alloc (.map #[] 0)) w.heap.size 0 (fun _ => false) :=
  ⟨.map [], World.ownsMap_made w _ _ _, fun _s => rfl⟩
def updB (A : Int → Bool) (x : Int) (v : Bool) : Int → Bool := fun s => if s = x then v else A s
def InR (x : Int) : Prop := -9223372036854775808 ≤ x ∧ x < 9223372036854775808
theorem zeroU (w : World) : (zeroValue 370).run Tryz.prog w = .ok (.agg #[]) w := by
  exact Tryz.zeroValue370 w
theorem SetAt.look {w : World} {mb N : Nat} {A : Int → Bool} (h : SetAt w mb N A) {x : Int} (hx : InR x) :
    (Instr.lookup 331 (.map (some mb)) (.int .i64 x) true).run Tryz.prog w = .ok (.tuple #[.agg #[], .bool (A x)]) w := by
  obtain ⟨D, ho, hf⟩ := h
  obtain ⟨v, ps, hr, hv⟩ := ho.look_ok keyedI Tryz.underlying331 (zeroU w) unitElem_mk (keyI hx.1 hx.2)
  obtain ⟨rfl, _⟩ := unitElem_inv hv
  rw [hr, hf x]
theorem SetAt.drop {w : World} {mb N : Nat} {A : Int → Bool} (h : SetAt w mb N A) {x : Int} (hx : InR x) (ty : TypeId) :
    ∃ w', (Builtin.delete_ #[331, 3] ty #[.map (some mb), .int .i64 x]).run Tryz.prog w = .ok (.tuple #[]) w' ∧ SetAt w' mb N (updB A x false) ∧ Upd (fun j => j = mb) w w' ∧ w'.heap.size = w.heap.size := by
  obtain ⟨D, ho, hf⟩ := h
  obtain ⟨w', hr, ho', ht⟩ := ho.drop keyedI Tryz.underlying331 (keyI hx.1 hx.2) ty
  refine ⟨w', hr, ⟨_, ho', fun s => ?_⟩, upd_turned ht, turned_size ht⟩
  by_cases hs : s = x
  · subst hs
    simp [updB, has_del_same]
  · have hne : Lit.int .i64 s ≠ Lit.int .i64 x := fun e => hs (by injection e)
    simp only [updB, if_neg hs, has_del_other hne]
    exact hf s
theorem SetAt.store {w : World} {mb N : Nat} {A : Int → Bool} (h : SetAt w mb N A) {x : Int} (hx : InR x) (hn : N < maxLen) :
    ∃ w', (Instr.mapUpdate 331 (.map (some mb)) (.int .i64 x) (.agg #[])).run Tryz.prog w = .ok () w' ∧ SetAt w' mb (N + 1) (updB A x true) ∧ Upd (fun j => j = mb) w w' ∧ w'.heap.size = w.heap.size := by
  obtain ⟨D, ho, hf⟩ := h
  have hM := ho.isMap
  have hK : ∀ y : Int, WideAt.IsKeyLit (.int .i64 y) := fun _ => trivial
  obtain ⟨w', hr, ho', ht⟩ := ho.store (ps := []) (d := .agg []) keyedI Tryz.underlying331 hn (keyI hx.1 hx.2) unitElem_mk
  refine ⟨w', hr, ⟨_, ho', fun s => ?_⟩, upd_turned ht, turned_size ht⟩
  by_cases hs : s = x
  · subst hs
    simp only [updB, if_true]
    rw [has_put_same hM (hK _)]
  · have hne : Lit.int .i64 s ≠ Lit.int .i64 x := fun e => hs (by injection e)
    simp only [updB, if_neg hs, has_put_other hne]
    exact hf s
set_option maxRecDepth 100000 in
theorem sclone_any {w : World} {mb N : Nat} {A : Int → Bool} (h : SetAt w mb N A) :
    Calls Tryz.prog 235 #[.map (some mb)] w fun e w' => e = .returned (.map (some w.heap.size)) ∧ SetAt w' w.heap.size N A ∧ Below w.heap.size w w' := by
  obtain ⟨D, ⟨es, clock, hb, hF, hs, hD⟩, hf⟩ := h
  have hq := fun w => run_eql_map_nil_sl (P := Tryz.prog) w 331 _ _ (some mb) Tryz.underlying331
  have hend : SetAt (w.alloc (.map es clock)) w.heap.size N A := ⟨D, ⟨es, clock, (MapKept.heap_alloc w _).1, hF, hs, hD⟩, hf⟩
  have HE := Lib.hid hend
  clear hend hf hD hs hF
  go_enter Tryz.func235, Tryz.ntmps235
  go_wp2
  rw [run_callFunc_extern Tryz.func301 (by kernel_rfl) (by kernel_rfl) (by kernel_rfl) (e := Extern.MapsClone.clone) (by kernel_rfl), run_maps_clone_sl w 331 hb]
  simp only [Result.andThen]
  rw [Oper.upon_value]
  go_wp2
  rw [run_typeAssert_map_sl _ 331 _ _ _ _ Tryz.underlying331]
  simp only [Result.andThen]
  rw [Oper.upon_value]
  go_wp2
  go_ret
  exact ⟨rfl, HE.out, (Below.refl _ _).alloc (Nat.le_refl _) _⟩
set_option maxRecDepth 100000 in
theorem wasAsked_any {w : World} {mb N : Nat} {A : Int → Bool} (h : SetAt w mb N A) (k : Int) (hk : InR k) :
    Calls Tryz.prog 236 #[.map (some mb), .int .i64 k] w fun e w' => e = .returned (.bool (A k)) ∧ Below w.heap.size w w' := by
  have hmf : ∀ (fn : Fn) (first cap : Array Value) (w : World), (Instr.makeFunc fn first cap).run Tryz.prog w = .ok (.func fn first cap) w := fun _ _ _ _ => rfl
  have hl := (SetAt.keep h ((Upd.refl (fun _ => False) w).alloc (.cells #[.bool false] 4)) (fun h => h)).look hk
  clear h
  go_enter_defers Tryz.func236, Tryz.ntmps236
  go_wp2
  refine leaves_cons (f := 302) (args := #[.pointer (some ⟨w.heap.size, 0, none⟩)]) (by simp) (by simp [go_sem]) ?_
  refine (wasAsked_idle _ _).mono ?_
  rintro e u' w'' ⟨rfl, rfl, rfl⟩
  simp [Leaves, settle, results, Tryz.results236, go_sem]
  exact (Below.refl _ _).alloc (Nat.le_refl _) _
end Go.Proofs.YtfhfbpmlnjdfoaaGreatDoor
namespace Go.Proofs.YtfhfbpmlnjdfoaaGreatDoor
open Go Go.RowKit Go.Maps Go.WideElems
theorem nodup_bound : ∀ (n : Nat) (l : List Int), l.Nodup → (∀ x ∈ l, -1 ≤ x ∧ x < (n : Int)) → l.length ≤ n + 1 := by
  intro n
  induction n with
  | zero =>
    intro l hd hr
    match l, hd, hr with
    | [], _, _ => simp
    | [_], _, _ => simp
    | a :: b :: l, hd, hr =>
      have h1 := hr a (by simp)
      have h2 := hr b (by simp)
      have : a = b := by omega
      simp [this] at hd
  | succ n ih =>
    intro l hd hr
    have h1 := ih (l.erase (n : Int)) (hd.erase _) (fun x hx => by
      have h2 := hr x (List.mem_of_mem_erase hx)
      have h3 : x ≠ (n : Int) := fun e => by subst e; exact (List.Nodup.not_mem_erase hd) hx
      omega)
    have h4 : l.length ≤ (l.erase (n : Int)).length + 1 := by
      rw [List.length_erase]; split <;> omega
    omega
theorem keys_bound {R : Value → Option (DataW Unit × List MemPlace)} {w : World} {mb N : Nat} {D : DataW Unit} (h : w.ownsMap Tryz.prog 3 R mb N D) (n : Nat) (hr : ∀ s : Int, Maps.has D (.int .i64 s) = true → -1 ≤ s ∧ s < (n : Int)) :
    w.ownsMap Tryz.prog 3 R mb (n + 1) D := by
  obtain ⟨es, clock, hb, F, hs, rfl⟩ := h
  refine ⟨es, clock, hb, F, ?_, rfl⟩
  have hk : ∀ x ∈ es.toList, ∃ c : Int, x.key = .int .i64 c ∧ Maps.has (DataW.map ((es.toList.map (rg Tryz.prog 3 R)).foldr DataW.insert [])) (.int .i64 c) = true := by
    intro x hx
    obtain ⟨y, hy⟩ := F.reads x hx
    obtain ⟨c, h1, h2⟩ := Maps.keyOf_int_inv Tryz.underlying3 (rd_key hy)
    refine ⟨c, h1, ?_⟩
    have h3 : (rg Tryz.prog 3 R x).1 = .int .i64 c := by rw [rg_of hy]; exact h2.1
    exact List.any_eq_true.2 ⟨rg Tryz.prog 3 R x, mem_sorted.2 (List.mem_map.2 ⟨x, hx, rfl⟩), by rw [h3]; exact WideAt.sameKey_self trivial⟩
  let g : MapEntry → Int := fun x => match x.key with | .int _ c => c | _ => 0
  have hg : ∀ x ∈ es.toList, x.key = .int .i64 (g x) := by
    intro x hx
    obtain ⟨c, h1, -⟩ := hk x hx
    simp only [g, h1]
  have hnd : (es.toList.map g).Nodup := by
    rw [List.Nodup, List.pairwise_map]
    have := ((MapKept.stamped_iff es clock).1 F.stamped).2.2
    refine List.Pairwise.imp_of_mem (fun {a b} ha hb' hne e => hne ?_) this
    rw [hg a ha, hg b hb', e]
  have := nodup_bound n _ hnd (fun s hs => by
    obtain ⟨x, hx, rfl⟩ := List.mem_map.1 hs
    obtain ⟨c, h1, h2⟩ := hk x hx
    have h3 : g x = c := by have := hg x hx; rw [h1] at this; injection this with _ h; exact h.symm
    rw [h3]
    exact hr c h2)
  simpa using this
theorem SetAt.tight {w : World} {mb N : Nat} {A : Int → Bool} (h : SetAt w mb N A) (n : Nat) (hr : ∀ s : Int, A s = true → -1 ≤ s ∧ s < (n : Int)) : SetAt w mb (n + 1) A := by
  obtain ⟨D, ho, hf⟩ := h
  exact ⟨D, keys_bound ho n (fun s hs => hr s (by rw [← hf]; exact hs)), hf⟩
theorem SetAt.clear {w : World} {mb N : Nat} {A : Int → Bool} (h : SetAt w mb N A) :
    ∃ w', (∀ ty, (Builtin.clear_ #[331] ty #[.map (some mb)]).run Tryz.prog w = .ok (.tuple #[]) w') ∧ SetAt w' mb N (fun _ => false) ∧ Upd (fun j => j = mb) w w' ∧ w'.heap.size = w.heap.size := by
  obtain ⟨D, ⟨es, clock, hb, F, hs, rfl⟩, hf⟩ := h
  refine ⟨ChangeMaps.setBlock w mb (.map #[] clock), ?_, ⟨.map [], ⟨#[], clock, (MapKept.heap_set hb).1, ⟨by simp, MapKept.stamped_empty _, by simp⟩, by simp, rfl⟩, fun s => rfl⟩, ?_, by simp [ChangeMaps.setBlock]⟩
  · intro ty; simp [Builtin.clear_, run_underlying Tryz.underlying331, MapKept.run_getObj_map hb, MapKept.run_setObj_map _ hb, Result.andThen, ChangeMaps.setBlock]
  · exact ⟨rfl, rfl, rfl, by simp [ChangeMaps.setBlock], fun k _ hk => (MapKept.heap_set hb).2 k hk⟩
end Go.Proofs.YtfhfbpmlnjdfoaaGreatDoor
namespace Go.Proofs.YtfhfbpmlnjdfoaaGreatDoor
open Go Go.RowKit
abbrev LgC (M : List (Nat × (Int → Bool))) : List Value := M.map fun p => .map (some p.1)
structure LgAt (w : World) (b : Nat) (v : Value) (blocks : Nat) (M : List (Nat × (Int → Bool))) : Prop where
  str : w.heap[b]? = some (.cells #[.int .i64 blocks, v] 330 (0, 0))
  sl : Sl w 331 1 v M.length (LgC M)
  sets : ∀ p ∈ M, SetAt w p.1 4097 p.2
  nd : (M.map (·.1)).Nodup
  mb : ∀ p ∈ M, p.1 ≠ b ∧ v.ownBlock ≠ some p.1
  vb : v.ownBlock ≠ some b
  len : M.length ≤ 1024
  bl : 1 ≤ blocks ∧ blocks ≤ 4096
  rg : ∀ p ∈ M, ∀ s : Int, p.2 s = true → -1 ≤ s ∧ s < (blocks : Int)
def lgS (b : Nat) (v : Value) (M : List (Nat × (Int → Bool))) : Nat → Prop := fun j => j = b ∨ v.ownBlock = some j ∨ j ∈ M.map (·.1)
section
variable {w w' : World} {b blocks : Nat} {v : Value} {M : List (Nat × (Int → Bool))}
theorem LgAt.keep (h : LgAt w b v blocks M) {S : Nat → Prop} (hu : Upd S w w') (hs : ∀ j, lgS b v M j → ¬ S j) : LgAt w' b v blocks M :=
  { h with
    str := (hu.block _ (lt_of_block h.str) (hs b (.inl rfl))).trans h.str
    sl := h.sl.keep hu (fun g hg => hs g (.inr (.inl hg)))
    sets := fun p hp => (h.sets p hp).keep hu (hs p.1 (.inr (.inr (List.mem_map.2 ⟨p, hp, rfl⟩)))) }
theorem LgAt.new (h : LgAt w b v blocks M) (hu : Upd (fun _ => False) w w') : LgAt w' b v blocks M := h.keep hu (fun _ _ h => h)
theorem LgAt.slt (h : LgAt w b v blocks M) : ∀ j, lgS b v M j → j < w.heap.size := by
  rintro j (rfl | hj | hj)
  · exact lt_of_block h.str
  · exact h.sl.lt hj
  · obtain ⟨p, hp, rfl⟩ := List.mem_map.1 hj
    exact (h.sets p hp).lt
theorem LgAt.c (h : LgAt w b v blocks M) : w.cell? ⟨b, 0, none⟩ = some (.int .i64 blocks) ∧ w.cell? ⟨b, 1, none⟩ = some v := by
  refine ⟨?_, ?_⟩ <;> rw [cell_of_block h.str] <;> rfl
theorem LgAt.at (h : LgAt w b v blocks M) {k : Nat} (hk : k < M.length) : ∃ g off cap, v = .slice (some ⟨g, off, none⟩) M.length cap ∧ w.cell? ⟨g, off + k, none⟩ = some (.map (some M[k].1)) := by
  obtain ⟨g, off, cap, cur, rfl, hg, hs, hc⟩ := h.sl.at (by omega)
  refine ⟨g, off, cap, rfl, ?_⟩
  rw [cell_of_block hg]
  exact hc k _ (by simp [LgC, hk])
theorem lg_set {M : List (Nat × (Int → Bool))} {k : Nat} (hk : k < M.length) (A : Int → Bool) : (M.set k (M[k].1, A)).map (·.1) = M.map (·.1) := by
  apply List.ext_getElem (by simp)
  intro i h1 h2
  simp only [List.getElem_map, List.getElem_set]
  split
  · rename_i e; subst e; rfl
  · rfl
theorem lgC_set {M : List (Nat × (Int → Bool))} {k : Nat} (hk : k < M.length) (A : Int → Bool) : LgC (M.set k (M[k].1, A)) = LgC M := by
  have h : ∀ M : List (Nat × (Int → Bool)), LgC M = (M.map (·.1)).map fun b => Value.map (some b) := fun M => by simp [LgC]
  rw [h, h, lg_set hk]
theorem LgAt.turn (h : LgAt w b v blocks M) {k : Nat} (hk : k < M.length) (hu : Upd (fun j => j = M[k].1) w w') {A : Int → Bool} (hs : SetAt w' M[k].1 4097 A) (hr : ∀ s : Int, A s = true → -1 ≤ s ∧ s < (blocks : Int)) :
    LgAt w' b v blocks (M.set k (M[k].1, A)) := by
  have hmk := h.mb M[k] (List.getElem_mem hk)
  exact { h with
    str := (hu.block _ (lt_of_block h.str) (fun e => hmk.1 e.symm)).trans h.str
    sl := by rw [lgC_set hk, List.length_set]; exact h.sl.keep hu (fun g hg e => hmk.2 (by rw [hg, e]))
    sets := fun p hp => by
      obtain ⟨i, hi, rfl⟩ := List.getElem_of_mem hp
      simp only [List.length_set] at hi
      rw [List.getElem_set]
      split
      · exact hs
      · rename_i hne
        refine (h.sets _ (List.getElem_mem hi)).keep hu (fun e => hne ?_)
        have := (List.getElem_inj (i := i) (j := k) (h₀ := by simpa using hi) (h₁ := by simpa using hk) h.nd).1 (by simpa using e)
        exact this.symm
    nd := by rw [lg_set hk]; exact h.nd
    mb := fun p hp => by
      have : p.1 ∈ (M.set k (M[k].1, A)).map (·.1) := List.mem_map.2 ⟨p, hp, rfl⟩
      rw [lg_set hk] at this
      obtain ⟨q, hq, hqe⟩ := List.mem_map.1 this
      rw [← hqe]; exact h.mb q hq
    len := by rw [List.length_set]; exact h.len
    rg := fun p hp s hps => by
      obtain ⟨i, hi, rfl⟩ := List.getElem_of_mem hp
      simp only [List.length_set] at hi
      rw [List.getElem_set] at hps
      split at hps
      · exact hr s hps
      · exact h.rg _ (List.getElem_mem hi) s hps }
end
def Lg (S : Nat → Prop) (w : World) (b blocks : Nat) (G : List (Int → Bool)) : Prop := ∃ v M, LgAt w b v blocks M ∧ M.map (·.2) = G ∧ ∀ j, lgS b v M j → S j
theorem Lg.thing (b blocks : Nat) (G : List (Int → Bool)) : Thing (fun S w => Lg S w b blocks G) where
  keep := fun h hu hs => by
    obtain ⟨v, M, h, hG, hS⟩ := h
    exact ⟨v, M, h.keep hu (fun j hj => hs j (hS j hj)), hG, hS⟩
  out := fun h hs => by
    obtain ⟨v, M, h, hG, hS⟩ := h
    exact ⟨v, M, h, hG, fun j hj => hs j (h.slt j hj) (hS j hj)⟩
theorem lhas_in {w : World} {b blocks : Nat} {v : Value} {M : List (Nat × (Int → Bool))} (h : LgAt w b v blocks M) (k : Nat) (hk : k < M.length) :
    Calls Tryz.prog 271 #[.pointer (some ⟨b, 0, none⟩), .int .i64 (k : Int)] w fun e w' => e = .returned (.int .i64 0) ∧ w = w' := by
  obtain ⟨-, g1⟩ := h.c
  obtain ⟨g, off, cap, rfl, -⟩ := h.at hk
  have hl := h.len
  have q1 : decide ((k : Int) < 0) = false := by simp
  have q2 : decide ((k : Int) ≥ (M.length : Int)) = false := by simp; omega
  have q3 : decide ((M.length : Int) ≤ (k : Int)) = false := by simp; omega
  have q4 : decide (M.length ≤ k) = false := by simp; omega
  clear h
  go_enter Tryz.func271, Tryz.ntmps271
  go_wp2
  go_ret
  exact ⟨rfl, rfl⟩
theorem lany {w : World} {mb N : Nat} {A : Int → Bool} (h : SetAt w mb N A) :
    Calls Tryz.prog 272 #[.map (some mb)] w fun e w' => e = .returned (.bool (A (-1))) ∧ Below w.heap.size w w' := by
  have hl := h.look (x := -1) (by unfold InR; omega)
  clear h
  go_enter Tryz.func272, Tryz.ntmps272
  go_wp2
  go_ret
  exact ⟨rfl, (Below.refl _ _).alloc (Nat.le_refl _) _⟩
def putA (A : Int → Bool) (x : Int) : Int → Bool := if x ≠ -1 ∧ A (-1) = true then A else updB (if x = -1 then fun _ => false else A) x true
theorem putA_rg {A : Int → Bool} {x : Int} {n : Nat} (hA : ∀ s : Int, A s = true → -1 ≤ s ∧ s < (n : Int)) (hx : x = -1 ∨ 0 ≤ x ∧ x < (n : Int)) (hn : 1 ≤ n) : ∀ s : Int, putA A x s = true → -1 ≤ s ∧ s < (n : Int) := by
  intro s hs
  unfold putA at hs
  split at hs
  · exact hA s hs
  · unfold updB at hs
    split at hs
    · omega
    · split at hs
      · simp at hs
      · exact hA s hs
def PutL (w : World) (b blocks : Nat) (v : Value) (M : List (Nat × (Int → Bool))) (k : Nat) (hk : k < M.length) (A : Int → Bool) (e : Ending) (w' : World) : Prop :=
  e = .returned (.int .i64 0) ∧ LgAt w' b v blocks (M.set k (M[k].1, A)) ∧ Upd (fun j => j = M[k].1) w w'
set_option maxRecDepth 100000 in
theorem lput_at {w : World} {b blocks : Nat} {v : Value} {M : List (Nat × (Int → Bool))} (h : LgAt w b v blocks M) (k : Nat) (hk : k < M.length) (x : Int) (hx : x = -1 ∨ (0 ≤ x ∧ x < (blocks : Int))) :
    Calls Tryz.prog 202 #[.pointer (some ⟨b, 0, none⟩), .int .i64 (k : Int), .int .i64 x] w (PutL w b blocks v M k hk (putA M[k].2 x)) := by
  have hmap : LgAt w b v blocks (M.set k (M[k].1, M[k].2)) := by
    have : M.set k (M[k].1, M[k].2) = M := by apply List.ext_getElem (by simp); intro i h1 h2; rw [List.getElem_set]; split; (rename_i e; subst e; rfl); rfl
    rw [this]; exact h
  have hset := h.sets M[k] (List.getElem_mem hk)
  have hrg := h.rg M[k] (List.getElem_mem hk)
  have hbl := h.bl
  have hl := h.len
  obtain ⟨g0, g1⟩ := h.c
  obtain ⟨g, off, cap, rfl, gk⟩ := h.at hk
  have b1 : (0 : Int) ≤ (k : Int) := by omega
  have b2 : (k : Int) < (M.length : Int) := by omega
  have hrg2 := putA_rg hrg hx hbl.1
  have HP := Lib.hid (And.intro hmap (And.intro hset (And.intro hrg (And.intro h hrg2))))
  clear hmap hset hrg h hrg2
  by_cases h1 : x = -1
  · have e1 : putA M[k].2 x = updB (fun _ => false) x true := by unfold putA; rw [if_neg (fun h => h.1 h1), if_pos h1]
    rw [e1] at HP ⊢
    subst h1
    clear e1 hx
    obtain ⟨w2, hr2, hs2, hu2, hz2⟩ := (HP.out.2.1).clear
    obtain ⟨w3, hr3, hs3, hu3, hz3⟩ := hs2.store (x := -1) (by unfold InR; omega) (by unfold maxLen; omega)
    have HE : Hid (PutL w b blocks (.slice (some ⟨g, off, none⟩) M.length cap) M k hk (updB (fun _ => false) (-1) true) (.returned (.int .i64 0)) w3) :=
      ⟨rfl, HP.out.2.2.2.1.turn hk (hu2.trans hu3) ((hs3.tight blocks HP.out.2.2.2.2).mono (by omega)) HP.out.2.2.2.2, hu2.trans hu3⟩
    clear hs2 hu2 hz2 hs3 hu3 hz3
    go_enter Tryz.func202, Tryz.ntmps202
    go_wp2_with (first
      | (go_at_call 271; refine (lhas_in HP.out.2.2.2.1 k hk).mono ?_; rintro e w' ⟨rfl, rfl⟩)
      | fail)
    go_ret
    exact HE.out
  · have hx' : 0 ≤ x ∧ x < (blocks : Int) := hx.resolve_left h1
    obtain ⟨c1, c2⟩ := hx'
    have q1 : (x != -1) = true := by rw [bne_iff_ne]; exact h1
    have q2 : decide (x < 0) = false := by simp; omega
    have q3 : decide (x ≥ (blocks : Int)) = false := by simp; omega
    have q4 : decide ((blocks : Int) ≤ x) = false := by simp; omega
    have q5 : (x == -1) = false := by rw [beq_eq_false_iff_ne]; exact h1
    by_cases h2 : M[k].2 (-1) = true
    · have e1 : putA M[k].2 x = M[k].2 := by unfold putA; rw [if_pos ⟨h1, h2⟩]
      rw [e1] at HP ⊢
      have hany : Calls Tryz.prog 272 #[.map (some M[k].1)] w fun e w' => e = .returned (.bool true) ∧ Below w.heap.size w w' := (lany HP.out.2.1).mono (fun e w' h => ⟨by rw [h.1, h2], h.2⟩)
      clear e1 hx h1 h2
      go_enter Tryz.func202, Tryz.ntmps202
      go_wp2_with (first
        | (go_at_call 271; refine (lhas_in HP.out.2.2.2.1 k hk).mono ?_; rintro e w' ⟨rfl, rfl⟩)
        | (go_at_call 272; refine hany.mono ?_; rintro e w1 ⟨rfl, hb1⟩)
        | fail)
      go_ret
      exact ⟨rfl, HP.out.1.new (Upd.of_below hb1), Upd.of_below hb1⟩
    · have e1 : putA M[k].2 x = updB M[k].2 x true := by unfold putA; rw [if_neg (fun h => h2 h.2), if_neg h1]
      rw [e1] at HP ⊢
      have h2' : M[k].2 (-1) = false := by simpa using h2
      have hany : Calls Tryz.prog 272 #[.map (some M[k].1)] w fun e w' => e = .returned (.bool false) ∧ Below w.heap.size w w' := (lany HP.out.2.1).mono (fun e w' h => ⟨by rw [h.1, h2'], h.2⟩)
      clear e1 hx h1 h2 h2'
      go_enter Tryz.func202, Tryz.ntmps202
      go_wp2_with (first
        | (go_at_call 271; refine (lhas_in HP.out.2.2.2.1 k hk).mono ?_; rintro e w' ⟨rfl, rfl⟩)
        | fail)
      refine hany.mono ?_
      rintro e w1 ⟨rfl, hb1⟩
      have hu1 : Upd (fun _ => False) w w1 := Upd.of_below hb1
      have h1 := HP.out.2.2.2.1.new hu1
      obtain ⟨w3, hr3, hs3, hu3, hz3⟩ := (HP.out.2.1.keep hu1 (fun h => h)).store (x := x) (by unfold InR; omega) (by unfold maxLen; omega)
      have HE : Hid (PutL w b blocks (.slice (some ⟨g, off, none⟩) M.length cap) M k hk (updB M[k].2 x true) (.returned (.int .i64 0)) w3) :=
        ⟨rfl, h1.turn hk hu3 ((hs3.tight blocks HP.out.2.2.2.2).mono (by omega)) HP.out.2.2.2.2, (hu1.mono (fun _ _ h => h.elim)).trans hu3⟩
      clear hs3 hu3 hz3 h1 hu1 hb1
      go_wp2
      go_ret
      exact HE.out
def putG (G : List (Int → Bool)) (k : Nat) (x : Int) : List (Int → Bool) := G.modify k (fun A => putA A x)
theorem lg_modify {M : List (Nat × (Int → Bool))} {k : Nat} (hk : k < M.length) (f : (Int → Bool) → Int → Bool) : (M.set k (M[k].1, f M[k].2)).map (·.2) = (M.map (·.2)).modify k f := by
  apply List.ext_getElem (by simp)
  intro i h1 h2
  simp only [List.getElem_map, List.getElem_set, List.getElem_modify]
  split
  · rename_i e; subst e; rfl
  · rfl
theorem lput {S : Nat → Prop} {w : World} {b blocks : Nat} {G : List (Int → Bool)} (h : Lg S w b blocks G) (k : Nat) (hk : k < G.length) (x : Int) (hx : x = -1 ∨ (0 ≤ x ∧ x < (blocks : Int))) :
    Calls Tryz.prog 202 #[.pointer (some ⟨b, 0, none⟩), .int .i64 (k : Int), .int .i64 x] w fun e w' => e = .returned (.int .i64 0) ∧ Lg S w' b blocks (putG G k x) ∧ Upd S w w' := by
  obtain ⟨v, M, h, rfl, hS⟩ := h
  have hk' : k < M.length := by simpa using hk
  refine (lput_at h k hk' x hx).mono ?_
  rintro e w' ⟨rfl, h2, hu⟩
  refine ⟨rfl, ⟨v, _, h2, lg_modify hk' (fun A => putA A x), fun j hj => hS j ?_⟩, hu.mono (fun j _ hj => hS j (.inr (.inr (by rw [hj]; exact List.mem_map.2 ⟨M[k], List.getElem_mem hk', rfl⟩))))⟩
  rcases hj with hj | hj | hj
  · exact .inl hj
  · exact .inr (.inl hj)
  · rw [lg_set hk'] at hj; exact .inr (.inr hj)
theorem infoI07 : (Tryz.prog.info? 3).map (fun i => (i.zero, i.size, i.bytes)) = some (some (.int .i64 0), 1, 8) := by kernel_rfl
theorem one_ints (l : List Int) : ∀ u ∈ ints l, u.oneCell' = true := by intro u hu; simp only [ints, List.mem_map] at hu; obtain ⟨p, _, rfl⟩ := hu; rfl
set_option maxRecDepth 100000 in
theorem cloneI_any {w : World} {v : Value} {l : List Int} (h : Rd w 1 v l.length (ints l)) (hle : l.length ≤ 4096) :
    Calls Tryz.prog 113 #[v] w fun e w' => ∃ v', e = .returned v' ∧ Sl w' 3 1 v' l.length (ints l) ∧ From w.heap.size v' ∧ Below w.heap.size w w' := by
  obtain ⟨i0, hi, hz0, hz1, hz2⟩ := info_parts infoI07
  have H := Lib.hid h
  obtain ⟨hl, hm, ao, c, rfl, h0, _⟩ := h
  have q34 := fun (w : World) (a : Option Addr) (n c : Nat) => Lib.run_eql_slice_nil (P := Tryz.prog) w 87 3 a n c 0 0 Tryz.underlying87
  cases ao with
  | none =>
    have hn := h0 rfl
    have hE : Hid (Sl w 3 1 (.slice none 0 0) l.length (ints l)) := by
      have : l = [] := List.length_eq_zero_iff.1 hn
      subst this; exact Sl.nil _ _ _
    clear h0 hl H hm
    go_enter Tryz.func113, Tryz.ntmps113
    go_wp2
    go_ret
    exact ⟨_, rfl, hE.out, From.nil _ _ _, Below.refl _ _⟩
  | some a =>
    clear h0 hl
    have hs0 : Sl (w.alloc (.cells #[] 3)) 3 1 (.slice (some ⟨w.heap.size, 0, none⟩) 0 0) 0 [] :=
      ⟨by simp, .inr ⟨w.heap.size, 0, 0, #[], rfl, heap_alloc_last _ _ rfl, by simp, by simp [maxLen], by simp, by simp⟩⟩
    have HR : Hid (Rd (w.alloc (.cells #[] 3)) 1 (.slice (some a) l.length c) l.length (ints l)) := H.out.keep ((Upd.refl (fun _ => False) _).alloc _) (fun _ _ h => h)
    have hone := one_ints l
    go_enter Tryz.func113, Tryz.ntmps113
    go_wp2_with (at_builtin; refine wpList_append_sl rfl _ _ 87 rfl i0 (.int .i64 0) 8 Tryz.underlying87 hi hz0 hz1 hz2 rfl (by decide) rfl hs0 _ l.length (ints l) rfl HR.out hone (by unfold maxLen; omega) (by omega) ?_)
    intro v' w2 hs2 hu2 hb2
    go_wp2
    go_ret
    refine ⟨_, rfl, by simpa using hs2, ?_, ?_⟩
    · exact hb2.ge (by simp) (by intro g hg; simp [Value.ownBlock] at hg; omega)
    · refine below_upd ((Below.refl _ _).alloc (Nat.le_refl _) _) hu2 (Nat.le_refl _) (by intro k hk; simp [ownS, Value.ownBlock] at hk; omega)
theorem getElem_erase (l : List Int) (i j : Nat) : (l.eraseIdx i)[j]? = if j < i then l[j]? else l[j + 1]? := by
  rw [List.getElem?_eraseIdx]
set_option maxRecDepth 100000 in
set_option maxHeartbeats 1000000 in
theorem del_one {w : World} {v : Value} {l : List Int} (h : Sl w 3 1 v l.length (ints l)) (hle : l.length ≤ 4096) {i : Nat} (hi : i < l.length) :
    Calls Tryz.prog 238 #[v, .int .i64 i, .int .i64 ((i : Int) + 1)] w fun e w' => ∃ v', e = .returned v' ∧ v'.ownBlock = v.ownBlock ∧ Sl w' 3 1 v' (l.eraseIdx i).length (ints (l.eraseIdx i)) ∧ Upd (ownS v) w w' := by
  obtain ⟨i0, hi0, hz0, hz1, hz2⟩ := info_parts infoI07
  obtain ⟨hl, ⟨rfl, h0⟩ | ⟨g, off, cap, cur, rfl, hg, hn, hm, hs, hc⟩⟩ := h
  · omega
  have hlen : (l.eraseIdx i).length = l.length - 1 := List.length_eraseIdx_of_lt hi
  obtain ⟨news, hnews⟩ : ∃ news, news = ints (l.drop (i + 1)) := ⟨_, rfl⟩
  have hnl : news.length = l.length - (i + 1) := by rw [hnews]; simp
  have hg' : w.drew.heap[g]? = some (.cells cur 3 (0, 0)) := hg
  obtain ⟨A, hA, hsrc⟩ : ∃ A : Addr, (if cap = i + 1 then some (⟨g, off, none⟩ : Addr) else some ⟨g, off + (i + 1), none⟩) = some A ∧ Hid (∀ t u, news[t]? = some u → w.drew.cell? (A.add t) = some u) := by
    by_cases h : cap = i + 1
    · refine ⟨⟨g, off, none⟩, by simp [h], fun t u hu => ?_⟩
      have h0 : news.length = 0 := by omega
      rw [List.length_eq_zero_iff.1 h0] at hu
      simp at hu
    · refine ⟨⟨g, off + (i + 1), none⟩, by simp [h], fun t u hu => ?_⟩
      rw [Addr.add_lit, cell_of_block hg']
      rw [hnews] at hu
      have : (ints l)[i + 1 + t]? = some u := by
        rw [← hu]; simp [ints, List.getElem?_drop]
      rw [show off + (i + 1) + t = off + (i + 1 + t) by omega]
      exact hc _ _ this
  have s1 : Hid (news.length = (l.length - (i + 1)) * 1) := by rw [Nat.mul_one]; exact hnl
  have s2 : Hid (∀ u ∈ news, u.oneCell' = true) := by rw [hnews]; exact one_ints _
  have s3 : Hid (∀ t, t < news.length → (w.drew.cell? ⟨g, off + i * 1 + t, none⟩).isSome = true ∧ w.drew.frozen? ⟨g, off + i * 1 + t, none⟩ = false) := by
    intro t ht
    rw [cell_of_block hg', frozen_of_block hg']
    refine ⟨?_, rfl⟩
    rw [Array.getElem?_eq_getElem (by omega)]; rfl
  obtain ⟨cur1, hb1, hz1', hget1⟩ := heap_setCells_same news (off + i * 1) w.drew g cur 3 (0, 0) hg'
  obtain ⟨W1, hW1⟩ : ∃ W1, W1 = w.drew.setCells g (off + i * 1) news := ⟨_, rfl⟩
  rw [← hW1] at hb1
  have hk1 : ∀ t, t < l.length - (i + (l.length - (i + 1))) → (W1.cell? ⟨g, off + (i + (l.length - (i + 1))) + t, none⟩).isSome = true := by
    intro t ht
    rw [cell_of_block hb1, Array.getElem?_eq_getElem (by omega)]; rfl
  have hcl : ∀ ty, (Builtin.clear_ #[87] ty #[.slice (some ⟨g, off + (i + (l.length - (i + 1))), none⟩) (l.length - (i + (l.length - (i + 1)))) (cap - (i + (l.length - (i + 1))))]).run Tryz.prog W1 = .ok (.tuple #[]) (W1.setCells g (off + (i + (l.length - (i + 1)))) (List.replicate (l.length - (i + (l.length - (i + 1)))) (.int .i64 0))) :=
    fun ty => Lib.run_clear_slice W1 _ 3 ty (.int .i64 0) Tryz.underlying87 (fun w => Tryz.zeroValue3 w) rfl rfl g (off + (i + (l.length - (i + 1)))) _ _ (by omega) hk1 (fun t _ => frozen_of_block hb1 _)
  obtain ⟨cur2, hb2, hz2', hget2⟩ := heap_setCells_same (List.replicate (l.length - (i + (l.length - (i + 1)))) (Value.int .i64 0)) (off + (i + (l.length - (i + 1)))) W1 g cur1 3 (0, 0) hb1
  have hU : Upd (ownS (.slice (some ⟨g, off, none⟩) l.length cap)) w (W1.setCells g (off + (i + (l.length - (i + 1)))) (List.replicate (l.length - (i + (l.length - (i + 1)))) (.int .i64 0))) := by
    refine Upd.trans (b := W1) ?_ (upd_setCells _ _ _ _ _ rfl)
    rw [hW1]
    exact ((Upd.refl _ w).drew).trans (upd_setCells _ _ _ _ _ rfl)
  have hend : Sl (W1.setCells g (off + (i + (l.length - (i + 1)))) (List.replicate (l.length - (i + (l.length - (i + 1)))) (.int .i64 0))) 3 1 (.slice (some ⟨g, off, none⟩) (i + (l.length - (i + 1))) cap) (l.eraseIdx i).length (ints (l.eraseIdx i)) := by
    refine ⟨by simp, .inr ⟨g, off, cap, cur2, by rw [hlen, show i + (l.length - (i + 1)) = l.length - 1 by omega], hb2, by omega, hm, by omega, fun j u hu => ?_⟩⟩
    have hj := (List.getElem?_eq_some_iff.1 hu).1
    rw [length_ints, hlen] at hj
    rw [hget2, if_neg (by omega), hget1]
    simp only [ints, List.getElem?_map, getElem_erase] at hu
    by_cases hji : j < i
    · rw [if_neg (by omega)]
      rw [if_pos hji] at hu
      exact hc j u (by simpa [ints] using hu)
    · rw [if_neg hji] at hu
      rw [if_pos ⟨by omega, by omega, by omega⟩, hnews, show off + j - (off + i * 1) = j - i by omega]
      simp only [ints, List.getElem?_map, List.getElem?_drop]
      rw [show i + 1 + (j - i) = j + 1 by omega]; exact hu
  have HU := Lib.hid hU; have HE := Lib.hid hend
  have hW : Hid (W1 = w.drew.setCells g (off + i * 1) news) := hW1
  have hic : i ≤ cap := by omega
  have hjc : i + 1 ≤ cap := by omega
  have hj0 : (0 : Int) ≤ (i : Int) + 1 := by omega
  have hj1 : (i : Int) + 1 ≤ (l.length : Int) := by omega
  have hj2 : 0 ≤ (i : Int) + 1 ∧ (i : Int) + 1 ≤ (l.length : Int) := ⟨hj0, hj1⟩
  have hb : ((i : Int) == (i : Int) + 1) = false := by simp; omega
  clear hk1 hU hend hget2 hget1 hb2 hb1 hW1 hc hg hg' hnews hnl hs
  go_enter Tryz.func238, Tryz.ntmps238
  go_wp2_with fail
  go_region_law (refine step_append_room rfl (.tmp 22) (.tmp 25) 87 rfl 3 i0 1 Tryz.underlying87 hi0 hz1 g off i cap (by simp [Act.eval, Act.put]) A (l.length - (i + 1)) (cap - (i + 1)) news (by simp [Act.eval, Act.put]) s1.out hsrc.out s2.out (by omega) s3.out ?_; rw [← hW.out])
  go_wp2
  go_ret
  exact ⟨_, rfl, rfl, HE.out, HU.out⟩
set_option maxRecDepth 100000 in
theorem grow_nil (n : Nat) (hn : n ≤ 4096) (w : World) :
    Calls Tryz.prog 303 #[.slice none 0 0, .int .i64 n] w fun e w' => ∃ v', e = .returned v' ∧ Sl w' 3 1 v' 0 [] ∧ From w.heap.size v' ∧ Below w.heap.size w w' := by
  obtain ⟨i0, hi0, hz0, hz1, hz2⟩ := info_parts infoI07
  by_cases h0 : n = 0
  · subst h0
    go_enter Tryz.func303, Tryz.ntmps303
    go_wp2
    go_ret
    exact ⟨_, rfl, Sl.nil _ _ _, From.nil _ _ _, Below.refl _ _⟩
  · have h63 : (n : Int) ≤ 9223372036854775807 := by omega
    have hrun := Lib.run_append_nil_zeros (P := Tryz.prog) w 87 3 87 3 i0 (.int .i64 0) .i64 .i64 Tryz.underlying87 Tryz.underlying3 hi0 hz0 n (by omega) (by omega) h63 (by rw [hz2]; omega)
    have hge := grownCap_ge w n 0 3
    have hle := grownCap_le_maxLen w n 0 3 (by unfold maxLen; omega)
    generalize grownCap w n 0 3 = cap at hrun hge hle
    obtain ⟨C, hC⟩ : ∃ C, C = Builtin.zeroCells (Value.int .i64 0).cells n ++ Builtin.zeroCells (Value.int .i64 0).cells (cap - n) := ⟨_, rfl⟩
    have hsz : C.size = cap := by
      rw [hC]; simp [Builtin.zeroCells, Value.cells]; omega
    rw [← hC] at hrun
    have hp : (0 : Int) < (n : Int) := by omega
    have hcap : (cap : Int) ≤ 9223372036854775807 := by unfold maxLen at hle; omega
    have HS := Lib.hid hsz
    have HL := Lib.hid hle
    clear hC hsz hle
    go_enter Tryz.func303, Tryz.ntmps303
    go_wp2_with (at_builtin; refine Lib.wpList_append_run _ rfl _ _ _ _ rfl _ _ rfl rfl _ _ hrun ?_)
    go_wp2
    go_ret
    refine ⟨_, rfl, ⟨rfl, .inr ⟨w.heap.size, 0, cap, C, rfl, heap_alloc_last _ _ rfl, by omega, HL.out, by rw [HS.out]; omega, by simp⟩⟩, ?_, ?_⟩
    · intro g hg; simp [Value.ownBlock] at hg; omega
    · exact (Below.refl _ w).trans (Upd.below (((Upd.refl _ w).drew).alloc _))
set_option maxRecDepth 100000 in
set_option maxHeartbeats 1000000 in
theorem concat_two {w : World} {gs : Nat} {va vb : Value} {fz : Nat × Nat} {la lb : List Int} (hgs : w.heap[gs]? = some (.cells #[va, vb] 87 fz))
    (ha : Rd w 1 va la.length (ints la)) (hb : Rd w 1 vb lb.length (ints lb)) (hle : la.length + lb.length ≤ 4096) :
    Calls Tryz.prog 237 #[.slice (some ⟨gs, 0, none⟩) 2 2] w fun e w' => ∃ v', e = .returned v' ∧ Sl w' 3 1 v' (la.length + lb.length) (ints la ++ ints lb) ∧ From w.heap.size v' ∧ Below w.heap.size w w' := by
  obtain ⟨i0, hi0, hz0, hz1, hz2⟩ := info_parts infoI07
  have HA := Lib.hid ha; have HB := Lib.hid hb
  have HG := Lib.hid hgs
  obtain ⟨aoa, ca, rfl⟩ := ha.nil_iff
  obtain ⟨aob, cb, rfl⟩ := hb.nil_iff
  have g0 := cell_of_block hgs 0
  have g1 := cell_of_block hgs 1
  simp at g0 g1
  have G := Lib.hid (And.intro g0 g1)
  clear ha hb hgs g0 g1
  go_enter Tryz.func237, Tryz.ntmps237
  go_wp2
  go_loopg [3, 11] 2 (fun g sz i wr => ∃ j : Nat, j + g = 2 ∧ i = .int .i64 j ∧ sz = .int .i64 ((if j = 0 then 0 else if j = 1 then la.length else la.length + lb.length : Nat) : Int) ∧ wr = w)
  case atStart => exact ⟨0, rfl, rfl, rfl, rfl⟩
  case round =>
    obtain ⟨j, hj, rfl, rfl, rfl⟩ := hrel
    obtain ⟨g0, g1⟩ := G.out
    rcases (by omega : j = 0 ∨ j = 1 ∨ j = 2) with rfl | rfl | rfl
    · simp only [if_true]
      have q : decide (((0 : Nat) : Int) + (la.length : Int) < 0) = false := by simp only [decide_eq_false_iff_not]; omega
      go_wp2
      go_roundg 1
      case measure => omega
      case rel => exact ⟨1, rfl, rfl, by simp, rfl⟩
    · have e1 : (if (1 : Nat) = 0 then 0 else if (1 : Nat) = 1 then la.length else la.length + lb.length) = la.length := rfl
      rw [e1]
      clear e1
      have q : decide ((la.length : Int) + (lb.length : Int) < 0) = false := by simp only [decide_eq_false_iff_not]; omega
      go_wp2
      go_roundg 0
      case measure => omega
      case rel => exact ⟨2, rfl, rfl, by simp, rfl⟩
    · have e1 : (if (2 : Nat) = 0 then 0 else if (2 : Nat) = 1 then la.length else la.length + lb.length) = la.length + lb.length := rfl
      rw [e1]
      clear e1
      go_wp2_with fail
      refine (grow_nil (la.length + lb.length) hle _).mono ?_
      rintro e w1 ⟨v1, rfl, hs1, hf1, hb1⟩
      have S1 := Lib.hid (And.intro hs1 (And.intro hf1 hb1))
      clear hs1 hf1 hb1
      obtain ⟨wb, rfl⟩ : ∃ wb : World, wb = wr := ⟨_, rfl⟩
      obtain ⟨go, hgo⟩ : ∃ x, x = gk := ⟨_, rfl⟩
      clear hgo hj
      go_wp2
      go_loopg [6, 27] 2 (fun g v i wr => ∃ j : Nat, j + g = 2 ∧ i = .int .i64 j ∧ ∃ ls : List Int, ls = (if j = 0 then [] else if j = 1 then la else la ++ lb) ∧ Sl wr 3 1 v ls.length (ints ls) ∧ From wb.heap.size v ∧ Below wb.heap.size wb wr)
      case atStart => exact ⟨0, rfl, rfl, [], rfl, S1.out.1, S1.out.2.1, S1.out.2.2⟩
      case round =>
        obtain ⟨j, hj, rfl, ls, rfl, hs, hf, hb⟩ := hrel
        have S2 := Lib.hid (And.intro hs (And.intro hf hb))
        have hblt : gs < wb.heap.size := lt_of_block HG.out
        have g0 := (hb.cell (p := ⟨gs, 0, none⟩) hblt).trans G.out.1
        have g1 := (hb.cell (p := ⟨gs, 1, none⟩) hblt).trans G.out.2
        clear hs hf hb
        rcases (by omega : j = 0 ∨ j = 1 ∨ j = 2) with rfl | rfl | rfl
        · have H1 : Hid (Sl wr 3 1 u6 ([] : List Int).length (ints [])) := S2.out.1
          go_wp2_with (at_builtin; refine wpList_append_sl rfl _ _ 87 rfl i0 (.int .i64 0) 8 Tryz.underlying87 hi0 hz0 hz1 hz2 rfl (by decide) rfl H1.out _ la.length (ints la) rfl (HA.out.below S2.out.2.2) (one_ints _) (by unfold maxLen; simp; omega) (by simp; omega) ?_)
          intro v2 w2 hs2 hu2 hb2
          go_wp2
          go_roundg 1
          case measure => omega
          case rel => exact ⟨1, rfl, rfl, la, rfl, by simpa using hs2, hb2.ge S2.out.2.2.size S2.out.2.1, below_upd S2.out.2.2 hu2 (Nat.le_refl _) S2.out.2.1.own⟩
        · have H1 : Hid (Sl wr 3 1 u6 la.length (ints la)) := S2.out.1
          go_wp2_with (at_builtin; refine wpList_append_sl rfl _ _ 87 rfl i0 (.int .i64 0) 8 Tryz.underlying87 hi0 hz0 hz1 hz2 rfl (by decide) rfl H1.out _ lb.length (ints lb) rfl (HB.out.below S2.out.2.2) (one_ints _) (by unfold maxLen; omega) (by omega) ?_)
          intro v2 w2 hs2 hu2 hb2
          go_wp2
          go_roundg 0
          case measure => omega
          case rel => exact ⟨2, rfl, rfl, la ++ lb, rfl, by simpa using hs2, hb2.ge S2.out.2.2.size S2.out.2.1, below_upd S2.out.2.2 hu2 (Nat.le_refl _) S2.out.2.1.own⟩
        · go_wp2
          go_ret
          exact ⟨_, rfl, by simpa using S2.out.1, S2.out.2.1, S2.out.2.2⟩
end Go.Proofs.YtfhfbpmlnjdfoaaGreatDoor
