/- The clock's row of keys: slices.Index, find (with its deferred closure). The clock's functions that recover: find, wasAsked (keys that can be compared: nothing panics). What every law's row asks behind the call, out of 'it returned true, and nothing that was there has turned'. The plain law of places: which block is at a slot. Maps from ints to ints, in memory, as functions. Sets of ints in memory (maps to struct{}), as functions. Maps and sets of ints in memory: as many entries as there are keys in a range; clear. -/
import Derived.Test.YtnadilfobmgebaaGreatDoorG04
import Derived.Defers
import Derived.Recover
import Derived.Deep.Slices
import Derived.Lib.SmallJoins
import Derived.Deep.Strs
import Derived.Test.YtnadilfobmgebaaGreatDoorG01
import Derived.Maps.Views
import Derived.Maps.OwnSet
import Derived.MapKept
import Derived.Shelf.SlMaps.Clone
import Derived.Maps.Range
namespace Go.Proofs.YtnadilfobmgebaaGreatDoor
open Go Go.RowKit
end Go.Proofs.YtnadilfobmgebaaGreatDoor
namespace Go.Proofs.YtnadilfobmgebaaGreatDoor
open Go Go.RowKit Go.ChangeShapes Go.WideShapes Go.ChangeAt
section
variable {H : Type} {enc : TypeId × Value → H} {P : Program}
theorem trodAll_stays (hl : laidOutB P = true) {W W' : World} (hb : Below W.heap.size W W') : ∀ (ts : List TypeId) (vs : List Value) (ds : List (DataW H)) (ps : List MemPlace),
    (∀ t ∈ ts, P.readableRec t = true ∧ t < P.types.size) → DataW.TrodAll enc P W 0 (fun _ => true) true ts vs ds ps → (∀ x ∈ ps, x.block < W.heap.size) →
    DataW.TrodAll enc P W' 0 (fun b => decide (b < W.heap.size)) true ts vs ds ps := by
  intro ts
  induction ts with
  | nil =>
    intro vs ds ps _ h _
    cases vs <;> cases ds <;> simp [DataW.TrodAll] at h ⊢
    exact h
  | cons t ts ih =>
    intro vs ds ps ht h hlt
    cases vs <;> cases ds <;> simp only [DataW.TrodAll] at h ⊢
    obtain ⟨p, q, h1, h2, rfl⟩ := h
    obtain ⟨hr, hs⟩ := ht t (by simp)
    exact ⟨p, q, Below.trod hl hr hs h1 hb (fun x hx => hlt x (by simp [hx])), ih _ _ _ (fun t' ht' => ht t' (by simp [ht'])) h2 (fun x hx => hlt x (by simp [hx])), rfl⟩
theorem law_post {f : Func} {s : ChangeSpec} {W W' : World} {args : Array Value} {ds gs : List (DataW H)} {before : List MemPlace} {T : TypeId}
    (hl : laidOutB P = true) (hts : f.params.toList.all (fun t => P.readableRec t && decide (t < P.types.size)) = true)
    (hres : f.resultTypes = #[T]) (hbool : P.underlying T = some .bool) (hvars : s.vars = [])
    (hfn : s.fn H (ds ++ gs) = { results := [.lit (.bool true)], args := ds })
    (hW : DataW.Whole enc P f.params.toList s.vars false W args.toList ds gs before) (hb : Below W.heap.size W W') :
    s.post enc P f false true false false W args (.bool true) W' := by
  have hlt : ∀ x ∈ before, x.block < W.heap.size := fun x hx => by simpa using hW.lt x hx
  have hW' := hW
  obtain ⟨p, q, hA, hV, rfl, hz, hn⟩ := hW
  rw [hvars] at hV
  refine ⟨ds, gs, p ++ q, [], p, [], hW', ?_, ?_, ?_, hb.frame _, fun h => by cases h⟩
  · rw [hres, hfn]
    exact trodAll_cons_mk (shut_bool hbool true) trodAll_mk0
  · rw [hfn]
    exact trodAll_stays hl hb _ _ _ _ (fun t ht => by have := List.all_eq_true.1 hts t ht; simpa using this) hA (fun x hx => hlt x (by simp [hx]))
  · rw [hvars, hfn]; rfl
theorem flat_at {α : Type} {f : α → List Value} {k : Nat} (hf : ∀ a, (f a).length = k) : ∀ (l : List α) (i j : Nat), j < k → ∀ a, l[i]? = some a → (l.flatMap f)[i * k + j]? = (f a)[j]? := by
  intro l
  induction l with
  | nil => intro i j _ a h; simp at h
  | cons b l ih =>
    intro i j hj a h
    cases i with
    | zero => simp at h; subst h; rw [List.flatMap_cons, Nat.zero_mul, Nat.zero_add, List.getElem?_append_left (by rw [hf]; exact hj)]
    | succ i =>
      simp at h
      have e : (i + 1) * k + j - (f b).length = i * k + j := by rw [hf, Nat.add_mul]; omega
      rw [List.flatMap_cons, List.getElem?_append_right (by rw [hf, Nat.add_mul]; omega), e]
      exact ih i j hj a h
theorem length_flat {α : Type} {f : α → List Value} {k : Nat} (hf : ∀ a, (f a).length = k) (l : List α) : (l.flatMap f).length = l.length * k := by
  induction l with
  | nil => simp
  | cons b l ih => rw [List.flatMap_cons, List.length_append, ih, hf, List.length_cons, Nat.add_mul]; omega
end
end Go.Proofs.YtnadilfobmgebaaGreatDoor
namespace Go.Proofs.YtnadilfobmgebaaGreatDoor
def upd1 (f : Int → Option Nat) (s : Int) (o : Option Nat) : Int → Option Nat := fun x => if x = s then o else f x
def atOf (ps : List (Int × Bool)) (s : Int) : Option Nat := if s < 0 then none else ps.findIdx? (fun p => p.1 == s)
structure Good (ps : List (Int × Bool)) (slots : Nat) : Prop where
  each : ∀ k (h : k < ps.length), ps[k] = (-1, false) ∨ (0 ≤ ps[k].1 ∧ ps[k].1 < slots)
  inj : ∀ i j (hi : i < ps.length) (hj : j < ps.length), 0 ≤ ps[i].1 → ps[i].1 = ps[j].1 → i = j
theorem atOf_some {ps : List (Int × Bool)} {s : Int} {k : Nat} (h : atOf ps s = some k) : 0 ≤ s ∧ ∃ h : k < ps.length, ps[k].1 = s := by
  unfold atOf at h
  split at h
  · cases h
  · rw [List.findIdx?_eq_some_iff_getElem] at h
    obtain ⟨hk, h1, _⟩ := h
    exact ⟨by omega, hk, by simpa using h1⟩
theorem atOf_none {ps : List (Int × Bool)} {s : Int} (h : atOf ps s = none) (hs : 0 ≤ s) {k : Nat} (hk : k < ps.length) : ps[k].1 ≠ s := by
  unfold atOf at h
  rw [if_neg (by omega), List.findIdx?_eq_none_iff] at h
  have := h ps[k] (List.getElem_mem hk)
  simpa using this
theorem Good.at {ps : List (Int × Bool)} {slots : Nat} (h : Good ps slots) {k : Nat} (hk : k < ps.length) (h0 : 0 ≤ ps[k].1) : atOf ps ps[k].1 = some k := by
  cases ha : atOf ps ps[k].1 with
  | none => exact absurd rfl (atOf_none ha h0 hk)
  | some j =>
    obtain ⟨_, hj, he⟩ := atOf_some ha
    rw [h.inj k j hk hj h0 he.symm]
theorem Good.start (n slots : Nat) : Good (List.replicate n (-1, false)) slots :=
  ⟨fun k h => .inl (by simp), fun i j hi hj h0 _ => by simp at h0⟩
theorem atOf_start (n : Nat) : atOf (List.replicate n (-1, false)) = fun _ => none := by
  funext s
  cases h : atOf (List.replicate n (-1, false)) s with
  | none => rfl
  | some k =>
    obtain ⟨h0, hk, he⟩ := atOf_some h
    simp at he
    omega
section
variable {ps : List (Int × Bool)} {slots k : Nat}
theorem Good.drop (h : Good ps slots) (k : Nat) : Good (ps.set k (-1, false)) slots := by
  refine ⟨fun i hi => ?_, fun i j hi hj h0 he => ?_⟩
  · rw [List.getElem_set]
    split
    · exact .inl rfl
    · exact h.each i (by simpa using hi)
  · rw [List.getElem_set] at h0 he
    rw [List.getElem_set] at he
    by_cases h1 : k = i
    · simp [h1] at h0
    · by_cases h2 : k = j
      · rw [if_neg h1, if_pos h2] at he
        rw [if_neg h1] at h0
        simp at he
        omega
      · rw [if_neg h1, if_neg h2] at he
        rw [if_neg h1] at h0
        exact h.inj i j (by simpa using hi) (by simpa using hj) h0 he
def mayPut (ps : List (Int × Bool)) (k : Nat) (s : Int) : Prop := atOf ps s = none ∨ atOf ps s = some k
theorem mayPut_ne (h : Good ps slots) {s : Int} (hm : mayPut ps k s) (h0 : 0 ≤ s) {i : Nat} (hi : i < ps.length) (hne : i ≠ k) : ps[i].1 ≠ s := by
  rcases hm with hm | hm
  · exact atOf_none hm h0 hi
  · intro e
    subst e
    have := h.at hi h0
    rw [this] at hm
    exact hne (by injection hm)
theorem Good.put (h : Good ps slots) (_ : k < ps.length) {s : Int} (d : Bool) (h0 : 0 ≤ s) (h1 : s < slots) (hm : mayPut ps k s) : Good (ps.set k (s, d)) slots := by
  refine ⟨fun i hi => ?_, fun i j hi hj h2 he => ?_⟩
  · rw [List.getElem_set]
    split
    · exact .inr ⟨h0, h1⟩
    · exact h.each i (by simpa using hi)
  · have hi' : i < ps.length := by simpa using hi
    have hj' : j < ps.length := by simpa using hj
    rw [List.getElem_set] at h2 he
    rw [List.getElem_set] at he
    by_cases e1 : k = i
    · by_cases e2 : k = j
      · exact e1.symm.trans e2
      · rw [if_pos e1, if_neg e2] at he
        exact absurd he.symm (mayPut_ne h hm h0 hj' (fun e => e2 e.symm))
    · by_cases e2 : k = j
      · rw [if_neg e1, if_pos e2] at he
        exact absurd he (mayPut_ne h hm h0 hi' (fun e => e1 e.symm))
      · rw [if_neg e1, if_neg e2] at he
        rw [if_neg e1] at h2
        exact h.inj i j hi' hj' h2 he
end
end Go.Proofs.YtnadilfobmgebaaGreatDoor
namespace Go.Proofs.YtnadilfobmgebaaGreatDoor
open Go Go.RowKit Go.Maps
def MapAt (w : World) (mb N : Nat) (f : Int → Option Nat) : Prop :=
  ∃ D : DataW Unit, w.ownsMap Tryz.prog 3 (plainElem Tryz.prog 3) mb N D ∧
    ∀ s : Int, Maps.has D (.int .i64 s) = (f s).isSome ∧ ∀ c, f s = some c → ∀ z, D.atKey (.int .i64 s) z = .lit (.int .i64 (c : Int))
theorem keyedI : Keyed Tryz.prog 3 := int_keyed Tryz.underlying3
theorem wfI {x : Int} (h1 : -9223372036854775808 ≤ x) (h2 : x < 9223372036854775808) : (Lit.int .i64 x).wf = true := by
  have e1 : IntKind.i64.min = -9223372036854775808 := by decide
  have e2 : IntKind.i64.max = 9223372036854775807 := by decide
  simp only [Lit.wf, e1, e2, Bool.and_eq_true, decide_eq_true_eq]
  omega
theorem keyI {x : Int} (h1 : -9223372036854775808 ≤ x) (h2 : x < 9223372036854775808) : keyOf Tryz.prog 3 (.int .i64 x) = some (.int .i64 x) := keyOf_int_mk Tryz.underlying3 (wfI h1 h2)
theorem MapAt.lt {w : World} {mb N : Nat} {f : Int → Option Nat} (h : MapAt w mb N f) : mb < w.heap.size := by obtain ⟨D, h, _⟩ := h; exact h.lt
theorem MapAt.keep {w w' : World} {mb N : Nat} {f : Int → Option Nat} (h : MapAt w mb N f) {S : Nat → Prop} (hu : Upd S w w') (hs : ¬ S mb) : MapAt w' mb N f := by
  obtain ⟨D, ⟨es, clock, hb, r⟩, hf⟩ := h
  exact ⟨D, ⟨es, clock, (hu.block _ (lt_of_block hb) hs).trans hb, r⟩, hf⟩
theorem MapAt.mono {w : World} {mb N N' : Nat} {f : Int → Option Nat} (h : MapAt w mb N f) (hn : N ≤ N') : MapAt w mb N' f := by obtain ⟨D, h, hf⟩ := h; exact ⟨D, h.mono hn, hf⟩
theorem MapAt.made (w : World) : MapAt (w.alloc (.map #[] 0)) w.heap.size 0 (fun _ => none) :=
  ⟨.map [], World.ownsMap_made w _ _ _, fun s => ⟨rfl, fun c h => by cases h⟩⟩
theorem upd_turned {w w' : World} {b : Nat} (h : w.mapTurned w' b) : Upd (fun j => j = b) w w' := by
  obtain ⟨a, b', c, d, e⟩ := h.grown
  exact ⟨a, b', c, d, fun i hi hs => e i hi (fun e => hs (by simpa using e))⟩
theorem turned_size {w w' : World} {b : Nat} (h : w.mapTurned w' b) : w'.heap.size = w.heap.size := by
  obtain ⟨es, clock, es', clock', hb, rfl⟩ := h
  simp [Go.ChangeMaps.setBlock]
theorem zeroI (w : World) : (zeroValue 3).run Tryz.prog w = .ok (.int .i64 0) w := by
  exact Tryz.zeroValue3 w
theorem MapAt.look {w : World} {mb N : Nat} {f : Int → Option Nat} (h : MapAt w mb N f) {x : Int} (h1 : -9223372036854775808 ≤ x) (h2 : x < 9223372036854775808) :
    (Instr.lookup 168 (.map (some mb)) (.int .i64 x) true).run Tryz.prog w = .ok (.tuple #[.int .i64 (((f x).getD 0 : Nat) : Int), .bool (f x).isSome]) w := by
  obtain ⟨D, ho, hf⟩ := h
  obtain ⟨v, ps, hr, hv⟩ := ho.look_ok keyedI Tryz.underlying168 (zeroI w) (plainElem_int Tryz.underlying3 (by decide)) (keyI h1 h2)
  obtain ⟨c, rfl, hc, hwc⟩ := plainElem_int_inv Tryz.underlying3 hv
  simp only [Prod.mk.injEq] at hc
  rw [hr, (hf x).1]
  have : c = (((f x).getD 0 : Nat) : Int) := by
    cases hx : f x with
    | none =>
      have h0 := (hf x).1
      rw [hx] at h0
      have := atKey_of_not_has (D := D) h0 (.lit (.int .i64 0))
      rw [this] at hc
      simp at hc
      simpa using hc.1.symm
    | some c' =>
      have := (hf x).2 c' hx (.lit (.int .i64 0))
      rw [this] at hc
      simp at hc
      simpa using hc.1.symm
  rw [this]
theorem MapAt.drop {w : World} {mb N : Nat} {f : Int → Option Nat} (h : MapAt w mb N f) {x : Int} (h1 : -9223372036854775808 ≤ x) (h2 : x < 9223372036854775808) (ty : TypeId) :
    ∃ w', (Builtin.delete_ #[168, 3] ty #[.map (some mb), .int .i64 x]).run Tryz.prog w = .ok (.tuple #[]) w' ∧ MapAt w' mb N (upd1 f x none) ∧ Upd (fun j => j = mb) w w' ∧ w'.heap.size = w.heap.size := by
  obtain ⟨D, ho, hf⟩ := h
  obtain ⟨w', hr, ho', ht⟩ := ho.drop keyedI Tryz.underlying168 (keyI h1 h2) ty
  refine ⟨w', hr, ⟨_, ho', fun s => ?_⟩, upd_turned ht, turned_size ht⟩
  by_cases hs : s = x
  · subst hs
    simp [upd1, has_del_same]
  · have hne : Lit.int .i64 s ≠ Lit.int .i64 x := fun e => hs (by injection e)
    simp only [upd1, if_neg hs, has_del_other hne]
    exact ⟨(hf s).1, fun c hc z => by rw [atKey_del_other hne]; exact (hf s).2 c hc z⟩
theorem MapAt.store {w : World} {mb N : Nat} {f : Int → Option Nat} (h : MapAt w mb N f) {x : Int} (h1 : -9223372036854775808 ≤ x) (h2 : x < 9223372036854775808) (c : Nat) (hc : c < 9223372036854775808) (hn : N < maxLen) :
    ∃ w', (Instr.mapUpdate 168 (.map (some mb)) (.int .i64 x) (.int .i64 (c : Int))).run Tryz.prog w = .ok () w' ∧ MapAt w' mb (N + 1) (upd1 f x (some c)) ∧ Upd (fun j => j = mb) w w' ∧ w'.heap.size = w.heap.size := by
  obtain ⟨D, ho, hf⟩ := h
  have hM := ho.isMap
  have hK : ∀ y : Int, WideAt.IsKeyLit (.int .i64 y) := fun _ => trivial
  obtain ⟨w', hr, ho', ht⟩ := ho.store (ps := []) (d := .lit (.int .i64 (c : Int))) keyedI Tryz.underlying168 hn (keyI h1 h2) (plainElem_int Tryz.underlying3 (wfI (by omega) (by omega)))
  refine ⟨w', hr, ⟨_, ho', fun s => ?_⟩, upd_turned ht, turned_size ht⟩
  by_cases hs : s = x
  · subst hs
    simp only [upd1]
    exact ⟨by rw [has_put_same hM (hK _)]; simp, fun c' hc' z => by simp at hc'; subst hc'; exact atKey_put_same hM (hK _) _ _⟩
  · have hne : Lit.int .i64 s ≠ Lit.int .i64 x := fun e => hs (by injection e)
    simp only [upd1, if_neg hs, has_put_other hne]
    exact ⟨(hf s).1, fun c hc z => by rw [atKey_put_other hne]; exact (hf s).2 c hc z⟩
def SetAt (w : World) (mb N : Nat) (A : Int → Bool) : Prop :=
  ∃ D : DataW Unit, w.ownsMap Tryz.prog 3 unitElem mb N D ∧ ∀ s : Int, Maps.has D (.int .i64 s) = A s
theorem SetAt.lt {w : World} {mb N : Nat} {A : Int → Bool} (h : SetAt w mb N A) : mb < w.heap.size := by obtain ⟨D, h, _⟩ := h; exact h.lt
theorem SetAt.keep {w w' : World} {mb N : Nat} {A : Int → Bool} (h : SetAt w mb N A) {S : Nat → Prop} (hu : Upd S w w') (hs : ¬ S mb) : SetAt w' mb N A := by
  obtain ⟨D, ⟨es, clock, hb, r⟩, hf⟩ := h
  exact ⟨D, ⟨es, clock, (hu.block _ (lt_of_block hb) hs).trans hb, r⟩, hf⟩
theorem SetAt.mono {w : World} {mb N N' : Nat} {A : Int → Bool} (h : SetAt w mb N A) (hn : N ≤ N') : SetAt w mb N' A := by obtain ⟨D, h, hf⟩ := h; exact ⟨D, h.mono hn, hf⟩
theorem SetAt.made (w : World) : SetAt (w.alloc (.map #[] 0)) w.heap.size 0 (fun _ => false) :=
  ⟨.map [], World.ownsMap_made w _ _ _, fun _s => rfl⟩
def updB (A : Int → Bool) (x : Int) (v : Bool) : Int → Bool := fun s => if s = x then v else A s
def InR (x : Int) : Prop := -9223372036854775808 ≤ x ∧ x < 9223372036854775808
theorem zeroU (w : World) : (zeroValue 315).run Tryz.prog w = .ok (.agg #[]) w := by
  exact Tryz.zeroValue315 w
theorem SetAt.look {w : World} {mb N : Nat} {A : Int → Bool} (h : SetAt w mb N A) {x : Int} (hx : InR x) :
    (Instr.lookup 291 (.map (some mb)) (.int .i64 x) true).run Tryz.prog w = .ok (.tuple #[.agg #[], .bool (A x)]) w := by
  obtain ⟨D, ho, hf⟩ := h
  obtain ⟨v, ps, hr, hv⟩ := ho.look_ok keyedI Tryz.underlying291 (zeroU w) unitElem_mk (keyI hx.1 hx.2)
  obtain ⟨rfl, _⟩ := unitElem_inv hv
  rw [hr, hf x]
theorem SetAt.drop {w : World} {mb N : Nat} {A : Int → Bool} (h : SetAt w mb N A) {x : Int} (hx : InR x) (ty : TypeId) :
    ∃ w', (Builtin.delete_ #[291, 3] ty #[.map (some mb), .int .i64 x]).run Tryz.prog w = .ok (.tuple #[]) w' ∧ SetAt w' mb N (updB A x false) ∧ Upd (fun j => j = mb) w w' ∧ w'.heap.size = w.heap.size := by
  obtain ⟨D, ho, hf⟩ := h
  obtain ⟨w', hr, ho', ht⟩ := ho.drop keyedI Tryz.underlying291 (keyI hx.1 hx.2) ty
  refine ⟨w', hr, ⟨_, ho', fun s => ?_⟩, upd_turned ht, turned_size ht⟩
  by_cases hs : s = x
  · subst hs
    simp [updB, has_del_same]
  · have hne : Lit.int .i64 s ≠ Lit.int .i64 x := fun e => hs (by injection e)
    simp only [updB, if_neg hs, has_del_other hne]
    exact hf s
theorem SetAt.store {w : World} {mb N : Nat} {A : Int → Bool} (h : SetAt w mb N A) {x : Int} (hx : InR x) (hn : N < maxLen) :
    ∃ w', (Instr.mapUpdate 291 (.map (some mb)) (.int .i64 x) (.agg #[])).run Tryz.prog w = .ok () w' ∧ SetAt w' mb (N + 1) (updB A x true) ∧ Upd (fun j => j = mb) w w' ∧ w'.heap.size = w.heap.size := by
  obtain ⟨D, ho, hf⟩ := h
  have hM := ho.isMap
  have hK : ∀ y : Int, WideAt.IsKeyLit (.int .i64 y) := fun _ => trivial
  obtain ⟨w', hr, ho', ht⟩ := ho.store (ps := []) (d := .agg []) keyedI Tryz.underlying291 hn (keyI hx.1 hx.2) unitElem_mk
  refine ⟨w', hr, ⟨_, ho', fun s => ?_⟩, upd_turned ht, turned_size ht⟩
  by_cases hs : s = x
  · subst hs
    simp only [updB, if_true]
    rw [has_put_same hM (hK _)]
  · have hne : Lit.int .i64 s ≠ Lit.int .i64 x := fun e => hs (by injection e)
    simp only [updB, if_neg hs, has_put_other hne]
    exact hf s
end Go.Proofs.YtnadilfobmgebaaGreatDoor
namespace Go.Proofs.YtnadilfobmgebaaGreatDoor
open Go Go.RowKit Go.Maps Go.WideElems
theorem nodup_bound : ∀ (n : Nat) (l : List Int), l.Nodup → (∀ x ∈ l, -1 ≤ x ∧ x < (n : Int)) → l.length ≤ n + 1 := by
  intro n
  induction n with
  | zero =>
    intro l hd hr
    match l, hd, hr with
    | [], _, _ => simp
    | [_], _, _ => simp
    | a :: b :: l, hd, hr =>
      have h1 := hr a (by simp)
      have h2 := hr b (by simp)
      have : a = b := by omega
      simp [this] at hd
  | succ n ih =>
    intro l hd hr
    have h1 := ih (l.erase (n : Int)) (hd.erase _) (fun x hx => by
      have h2 := hr x (List.mem_of_mem_erase hx)
      have h3 : x ≠ (n : Int) := fun e => by subst e; exact (List.Nodup.not_mem_erase hd) hx
      omega)
    have h4 : l.length ≤ (l.erase (n : Int)).length + 1 := by
      rw [List.length_erase]; split <;> omega
    omega
theorem keys_bound {R : Value → Option (DataW Unit × List MemPlace)} {w : World} {mb N : Nat} {D : DataW Unit} (h : w.ownsMap Tryz.prog 3 R mb N D) (n : Nat) (hr : ∀ s : Int, Maps.has D (.int .i64 s) = true → -1 ≤ s ∧ s < (n : Int)) :
    w.ownsMap Tryz.prog 3 R mb (n + 1) D := by
  obtain ⟨es, clock, hb, F, hs, rfl⟩ := h
  refine ⟨es, clock, hb, F, ?_, rfl⟩
  have hk : ∀ x ∈ es.toList, ∃ c : Int, x.key = .int .i64 c ∧ Maps.has (DataW.map ((es.toList.map (rg Tryz.prog 3 R)).foldr DataW.insert [])) (.int .i64 c) = true := by
    intro x hx
    obtain ⟨y, hy⟩ := F.reads x hx
    obtain ⟨c, h1, h2⟩ := Maps.keyOf_int_inv Tryz.underlying3 (rd_key hy)
    refine ⟨c, h1, ?_⟩
    have h3 : (rg Tryz.prog 3 R x).1 = .int .i64 c := by rw [rg_of hy]; exact h2.1
    exact List.any_eq_true.2 ⟨rg Tryz.prog 3 R x, mem_sorted.2 (List.mem_map.2 ⟨x, hx, rfl⟩), by rw [h3]; exact WideAt.sameKey_self trivial⟩
  let g : MapEntry → Int := fun x => match x.key with | .int _ c => c | _ => 0
  have hg : ∀ x ∈ es.toList, x.key = .int .i64 (g x) := by
    intro x hx
    obtain ⟨c, h1, -⟩ := hk x hx
    simp only [g, h1]
  have hnd : (es.toList.map g).Nodup := by
    rw [List.Nodup, List.pairwise_map]
    have := ((MapKept.stamped_iff es clock).1 F.stamped).2.2
    refine List.Pairwise.imp_of_mem (fun {a b} ha hb' hne e => hne ?_) this
    rw [hg a ha, hg b hb', e]
  have := nodup_bound n _ hnd (fun s hs => by
    obtain ⟨x, hx, rfl⟩ := List.mem_map.1 hs
    obtain ⟨c, h1, h2⟩ := hk x hx
    have h3 : g x = c := by have := hg x hx; rw [h1] at this; injection this with _ h; exact h.symm
    rw [h3]
    exact hr c h2)
  simpa using this
theorem SetAt.tight {w : World} {mb N : Nat} {A : Int → Bool} (h : SetAt w mb N A) (n : Nat) (hr : ∀ s : Int, A s = true → -1 ≤ s ∧ s < (n : Int)) : SetAt w mb (n + 1) A := by
  obtain ⟨D, ho, hf⟩ := h
  exact ⟨D, keys_bound ho n (fun s hs => hr s (by rw [← hf]; exact hs)), hf⟩
theorem MapAt.tight {w : World} {mb N : Nat} {f : Int → Option Nat} (h : MapAt w mb N f) (n : Nat) (hr : ∀ s : Int, (f s).isSome = true → -1 ≤ s ∧ s < (n : Int)) : MapAt w mb (n + 1) f := by
  obtain ⟨D, ho, hf⟩ := h
  exact ⟨D, keys_bound ho n (fun s hs => hr s (by rw [← (hf s).1]; exact hs)), hf⟩
theorem SetAt.clear {w : World} {mb N : Nat} {A : Int → Bool} (h : SetAt w mb N A) :
    ∃ w', (∀ ty, (Builtin.clear_ #[291] ty #[.map (some mb)]).run Tryz.prog w = .ok (.tuple #[]) w') ∧ SetAt w' mb N (fun _ => false) ∧ Upd (fun j => j = mb) w w' ∧ w'.heap.size = w.heap.size := by
  obtain ⟨D, ⟨es, clock, hb, F, hs, rfl⟩, hf⟩ := h
  refine ⟨ChangeMaps.setBlock w mb (.map #[] clock), ?_, ⟨.map [], ⟨#[], clock, (MapKept.heap_set hb).1, ⟨by simp, MapKept.stamped_empty _, by simp⟩, by simp, rfl⟩, fun s => rfl⟩, ?_, by simp [ChangeMaps.setBlock]⟩
  · intro ty; simp [Builtin.clear_, run_underlying Tryz.underlying291, MapKept.run_getObj_map hb, MapKept.run_setObj_map _ hb, Result.andThen, ChangeMaps.setBlock]
  · exact ⟨rfl, rfl, rfl, by simp [ChangeMaps.setBlock], fun k _ hk => (MapKept.heap_set hb).2 k hk⟩
end Go.Proofs.YtnadilfobmgebaaGreatDoor
