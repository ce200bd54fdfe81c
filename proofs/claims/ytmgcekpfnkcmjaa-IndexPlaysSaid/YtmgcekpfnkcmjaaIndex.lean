/- The index: contracts of the code's functions. -/
import Derived.Test.YtmgcekpfnkcmjaaRepeat
import Derived.Test.YtmgcekpfnkcmjaaMap
import Derived.Deep.RegionHeld3
namespace Go.Proofs.Ytmgcekpfnkcmjaa
open Go Go.RowKit

/-- A place's value. -/
abbrev placeV (s : Int) (d : Bool) : Value := .agg #[.int .i64 s, .bool d]

theorem nowhere_ok (w : World) : Calls Try.prog 48 #[] w fun e w' => e = .returned (placeV (-1) false) ∧ Upd (fun _ => False) w w' ∧ w'.heap.size = w.heap.size + 1 := by
  go_enter Try.func48, Try.ntmps48
  go_wp2
  have hA := heap_alloc_last w (.cells #[.int .i64 (-1), .bool false] 36) rfl
  have c0 := cell_of_block hA 0
  have c1 := cell_of_block hA 1
  simp at c0 c1
  refine bodyPost_ret (v := placeV (-1) false) ?_ rfl ⟨rfl, (Upd.refl _ _).alloc _, by simp⟩
  simp [results, Try.results48, go_sem]

/-- The places, as cells. -/
def plC (l : List (Int × Bool)) : List Value := l.flatMap fun p => [.int .i64 p.1, .bool p.2]
theorem plC_len (l : List (Int × Bool)) : (plC l).length = l.length * 2 := length_flat (f := fun p : Int × Bool => [Value.int .i64 p.1, Value.bool p.2]) (k := 2) (fun _ => rfl) l
theorem plC_at {l : List (Int × Bool)} {k : Nat} (h : k < l.length) : (plC l)[k * 2]? = some (.int .i64 l[k].1) ∧ (plC l)[k * 2 + 1]? = some (.bool l[k].2) :=
  ⟨flat_at (f := fun p : Int × Bool => [Value.int .i64 p.1, Value.bool p.2]) (k := 2) (fun _ => rfl) l k 0 (by decide) l[k] (List.getElem?_eq_getElem h),
   flat_at (f := fun p : Int × Bool => [Value.int .i64 p.1, Value.bool p.2]) (k := 2) (fun _ => rfl) l k 1 (by decide) l[k] (List.getElem?_eq_getElem h)⟩
theorem noPl_plC (n : Nat) : noPl n = plC (List.replicate n (-1, false)) := by
  induction n with
  | zero => rfl
  | succ n ih => rw [Nat.add_comm n 1, noPl_add, ih, ← List.replicate_append_replicate]; simp [plC, noPl]

/-- An index in memory: its struct, its places, its map. -/
structure IndexAt (w : World) (b : Nat) (v : Value) (mb N : Nat) (ps : List (Int × Bool)) (slots : Nat) : Prop where
  str : w.heap[b]? = some (.cells #[v, .map (some mb), .int .i64 slots] 95 (0, 0))
  sl : Sl w 36 2 v ps.length (plC ps)
  map : MapAt w mb N (atOf ps)
  good : Good ps slots
  ne : v.ownBlock ≠ some b
  nm : mb ≠ b
  nv : v.ownBlock ≠ some mb
  le : ps.length ≤ 4096
  sl1 : slots ≤ 1024

/-- The blocks of an index that its calls turn. -/
def ixS (v : Value) (mb : Nat) : Nat → Prop := fun j => v.ownBlock = some j ∨ j = mb

theorem IndexAt.keep {w w' : World} {b mb N : Nat} {v : Value} {ps : List (Int × Bool)} {slots : Nat} (h : IndexAt w b v mb N ps slots) {S : Nat → Prop} (hu : Upd S w w') (hb : ¬ S b) (hs : ∀ j, ixS v mb j → ¬ S j) : IndexAt w' b v mb N ps slots :=
  { str := (hu.block _ (lt_of_block h.str) hb).trans h.str, sl := h.sl.keep hu (fun g hg => hs g (.inl hg)), map := h.map.keep hu (hs mb (.inr rfl)), good := h.good, ne := h.ne, nm := h.nm, nv := h.nv, le := h.le, sl1 := h.sl1 }
theorem IndexAt.below {w w' : World} {b mb N : Nat} {v : Value} {ps : List (Int × Bool)} {slots : Nat} (h : IndexAt w b v mb N ps slots) (hb : Below w.heap.size w w') : IndexAt w' b v mb N ps slots :=
  h.keep (Upd.of_below (S := fun _ => False) hb) (fun h => h) (fun _ _ h => h)
theorem IndexAt.mono {w : World} {b mb N N' : Nat} {v : Value} {ps : List (Int × Bool)} {slots : Nat} (h : IndexAt w b v mb N ps slots) (hn : N ≤ N') : IndexAt w b v mb N' ps slots := { h with map := h.map.mono hn }
theorem IndexAt.blt {w : World} {b mb N : Nat} {v : Value} {ps : List (Int × Bool)} {slots : Nat} (h : IndexAt w b v mb N ps slots) : b < w.heap.size := lt_of_block h.str
theorem IndexAt.slt {w : World} {b mb N : Nat} {v : Value} {ps : List (Int × Bool)} {slots : Nat} (h : IndexAt w b v mb N ps slots) : ∀ j, ixS v mb j → j < w.heap.size := by
  rintro j (hj | rfl)
  · exact h.sl.lt hj
  · exact h.map.lt
theorem IndexAt.nb {w : World} {b mb N : Nat} {v : Value} {ps : List (Int × Bool)} {slots : Nat} (h : IndexAt w b v mb N ps slots) : ¬ ixS v mb b := by
  rintro (hj | hj)
  · exact h.ne hj
  · exact h.nm hj.symm

set_option maxRecDepth 100000 in
theorem inew_ok (n s : Nat) (w : World) (h1 : 1 ≤ n) (h2 : n ≤ 4096) (h3 : 1 ≤ s) (h4 : s ≤ 1024) :
    Calls Try.prog 13 #[.int .i64 n, .int .i64 s] w fun e w' => ∃ b v mb, e = .returned (.tuple #[.pointer (some ⟨b, 0, none⟩), .int .i64 0]) ∧
      IndexAt w' b v mb 0 (List.replicate n (-1, false)) s ∧ w.heap.size ≤ b ∧ w.heap.size ≤ mb ∧ From w.heap.size v ∧ Below w.heap.size w w' := by
  have hmm := @run_makeMap Try.prog
  go_enter Try.func13, Try.ntmps13
  go_wp2_with fail
  refine (nowhere_ok _).mono ?_
  rintro e w1 ⟨rfl, hu1, hz1⟩
  have hx : (w1.alloc (.cells #[.int .i64 (-1), .bool false] 36)).heap[w.heap.size + 1]? = some (.cells #[.int .i64 (-1), .bool false] 36) := heap_alloc_last _ _ hz1.symm
  have HX := Lib.hid hx
  clear hx
  go_wp2_with fail
  refine (repeat_ok n (w.heap.size + 1) _ h1 h2 HX.out).mono ?_
  rintro e w2 ⟨rfl, hg2, hb2, hz2⟩
  have hz2' : w2.heap.size = w.heap.size + 3 := by rw [hz2]; simp [hz1]
  have hB2 : Below w.heap.size w w2 := (below_upd (Below.refl _ w) (hu1.alloc (.cells #[.int .i64 (-1), .bool false] 36)) (Nat.le_refl _) (fun _ h => h.elim)).trans (hb2.mono (by simp [hz1]; omega))
  have HG := Lib.hid hg2
  have HB := Lib.hid hB2
  clear hg2 hB2 hb2 hz2
  go_wp2
  go_ret2
  have hM := Upd.alloc (Upd.refl (fun _ => False) w2) (.map #[] 0)
  have hg2 : w2.heap[w.heap.size + 2]? = some (.cells (noPl n).toArray 36) := by have := HG.out; simpa [hz1] using this
  have hsl : Sl w2 36 2 (.slice (some ⟨w.heap.size + 2, 0, none⟩) n n) (List.replicate n ((-1 : Int), false)).length (plC (List.replicate n (-1, false))) := by
    rw [← noPl_plC]
    refine ⟨by rw [noPl_len]; simp, .inr ⟨w.heap.size + 2, 0, n, (noPl n).toArray, by simp, hg2, by simp, by unfold maxLen; omega, by simp [noPl_len], fun j u hj => by simpa using hj⟩⟩
  have hmap : MapAt (w2.alloc (.map #[] 0)) (w.heap.size + 3) 0 (atOf (List.replicate n (-1, false))) := by
    have := MapAt.made w2
    rw [hz2'] at this; rw [atOf_start]; exact this
  refine ⟨w.heap.size + 3 + 1, .slice (some ⟨w.heap.size + 2, 0, none⟩) n n, w.heap.size + 3, rfl, ⟨heap_alloc_last _ _ (by simp [hz2']), ?_, hmap.keep (Upd.alloc (Upd.refl (fun _ => False) _) _) (fun h => h), Good.start n s, by simp [Value.ownBlock], by omega, by simp [Value.ownBlock], by simp; omega, h4⟩, by omega, by omega, ?_, ?_⟩
  · exact hsl.keep (hM.alloc _) (fun _ _ h => h)
  · intro g hg; simp [Value.ownBlock] at hg; omega
  · exact below_upd HB.out (hM.alloc _) (Nat.le_refl _) (fun _ h => h.elim)

/-- What Get answers. -/
def getV (ps : List (Int × Bool)) (b : Int) : Int × Bool := if b < 0 ∨ (ps.length : Int) ≤ b then (0, false) else if ps.getD b.toNat (-1, false) = (-1, false) then (0, false) else ps.getD b.toNat (-1, false)
def getC (ps : List (Int × Bool)) (b : Int) : Int := if b < 0 ∨ (ps.length : Int) ≤ b then 10 else if ps.getD b.toNat (-1, false) = (-1, false) then 14 else 0

theorem get_nil (k : Int) (w : World) : Calls Try.prog 19 #[.pointer none, .int .i64 k] w fun e w' => e = .returned (.tuple #[placeV 0 false, .int .i64 2]) ∧ Below w.heap.size w w' := by
  go_enter Try.func19, Try.ntmps19
  go_wp2
  have hA := heap_alloc_last w (.cells #[.int .i64 0, .bool false] 36) rfl
  have c0 := cell_of_block hA 0
  have c1 := cell_of_block hA 1
  simp at c0 c1
  refine bodyPost_ret (v := .tuple #[placeV 0 false, .int .i64 2]) ?_ rfl ⟨rfl, (Below.refl _ _).alloc (Nat.le_refl _) _⟩
  simp [results, Try.results19, go_sem]

theorem get_out {w : World} {b mb N : Nat} {v : Value} {ps : List (Int × Bool)} {slots : Nat} (h : IndexAt w b v mb N ps slots) (k : Int) (ho : k < 0 ∨ (ps.length : Int) ≤ k) :
    Calls Try.prog 19 #[.pointer (some ⟨b, 0, none⟩), .int .i64 k] w fun e w' => e = .returned (.tuple #[placeV 0 false, .int .i64 10]) ∧ Below w.heap.size w w' := by
  have hu : Upd (fun _ => False) w (w.alloc (.cells #[.int .i64 0, .bool false] 36)) := (Upd.refl _ _).alloc _
  have hc0 := (hu.cellAt (o := 0) (lt_of_block h.str) (fun h => h)).trans (cell_of_block h.str 0)
  simp at hc0
  have hle := h.le
  have hA := heap_alloc_last w (.cells #[.int .i64 0, .bool false] 36) rfl
  have c0 := cell_of_block hA 0
  have c1 := cell_of_block hA 1
  simp at c0 c1
  have C0 := Lib.hid c0; have C1 := Lib.hid c1
  clear hA c0 c1
  obtain ⟨ao, c, rfl⟩ := h.sl.rd.nil_iff
  clear h
  by_cases h0 : k < 0
  · clear ho
    go_enter Try.func19, Try.ntmps19
    go_wp2
    refine bodyPost_ret (v := .tuple #[placeV 0 false, .int .i64 10]) ?_ rfl ⟨rfl, (Below.refl _ _).alloc (Nat.le_refl _) _⟩
    simp [results, Try.results19, go_sem]
  · have h1 : (ps.length : Int) ≤ k := by omega
    clear ho
    go_enter Try.func19, Try.ntmps19
    go_wp2
    refine bodyPost_ret (v := .tuple #[placeV 0 false, .int .i64 10]) ?_ rfl ⟨rfl, (Below.refl _ _).alloc (Nat.le_refl _) _⟩
    simp [results, Try.results19, go_sem]

theorem IndexAt.at {w : World} {b mb N : Nat} {v : Value} {ps : List (Int × Bool)} {slots : Nat} (h : IndexAt w b v mb N ps slots) {k : Nat} (hk : k < ps.length) :
    ∃ g off cap, v = .slice (some ⟨g, off, none⟩) ps.length cap ∧ g < w.heap.size ∧ w.cell? ⟨g, off + k * 2, none⟩ = some (.int .i64 ps[k].1) ∧ w.cell? ⟨g, off + k * 2 + 1, none⟩ = some (.bool ps[k].2) := by
  obtain ⟨g, off, cap, cur, rfl, hg, _, hc⟩ := h.sl.at (by omega)
  exact ⟨g, off, cap, rfl, lt_of_block hg, by rw [cell_of_block hg]; exact hc _ _ (plC_at hk).1, by rw [cell_of_block hg]; exact hc (k * 2 + 1) _ (plC_at hk).2⟩

theorem get_some {w : World} {b mb N : Nat} {v : Value} {ps : List (Int × Bool)} {slots : Nat} (h : IndexAt w b v mb N ps slots) (k : Nat) (hk : k < ps.length) (hp : ps[k].1 ≠ -1) :
    Calls Try.prog 19 #[.pointer (some ⟨b, 0, none⟩), .int .i64 k] w fun e w' => e = .returned (.tuple #[placeV ps[k].1 ps[k].2, .int .i64 0]) ∧ Below w.heap.size w w' := by
  have hu : Upd (fun _ => False) w (w.alloc (.cells #[.int .i64 0, .bool false] 36)) := (Upd.refl _ _).alloc _
  have hc0 := (hu.cellAt (o := 0) (lt_of_block h.str) (fun h => h)).trans (cell_of_block h.str 0)
  simp at hc0
  have hle := h.le
  have hbl := lt_of_block h.str
  obtain ⟨g, off, cap, rfl, hg, q0, q1⟩ := h.at hk
  have p0 := (hu.cellAt hg (fun h => h)).trans q0
  have p1 := (hu.cellAt hg (fun h => h)).trans q1
  have hA := heap_alloc_last w (.cells #[.int .i64 0, .bool false] 36) rfl
  have HA := Lib.hid hA
  clear h q0 q1 hA
  go_enter Try.func19, Try.ntmps19
  go_wp2
  go_region_held3 (fun W => W.cell? ⟨b, 0, none⟩ = some (.slice (some ⟨g, off, none⟩) ps.length cap) ∧ W.cell? ⟨g, off + k * 2, none⟩ = some (.int .i64 ps[k].1) ∧ W.cell? ⟨g, off + k * 2 + 1, none⟩ = some (.bool ps[k].2)) (go_keep)
    ((go_at_call 48; refine (nowhere_ok _).mono ?_; rintro e w2 ⟨rfl, hu2, hz2⟩; have k0 := (hu2.cellAt (o := 0) (by simp; omega) (fun h => h)).trans hc0; have k1 := (hu2.cellAt (by simp; omega) (fun h => h)).trans p0; have k2 := (hu2.cellAt (by simp; omega) (fun h => h)).trans p1))
  have hb0 : (ps[k].1 == -1) = false := by simpa using hp
  have hA2 : w2.heap[w.heap.size]? = some (.cells #[.int .i64 0, .bool false] 36) := (hu2.block _ (by simp) (fun h => h)).trans HA.out
  have r0 := cell_of_block hA2 0
  have r1 := cell_of_block hA2 1
  have f0 := frozen_of_block hA2 0
  have f1 := frozen_of_block hA2 1
  simp at r0 r1
  have HA2 := Lib.hid hA2
  clear hA2
  go_wp2
  have HA3 := heap_setCell_same (heap_setCell_same HA2.out 0 (.int .i64 ps[k].1)) 1 (.bool ps[k].2)
  have y0 := cell_of_block HA3 0
  have y1 := cell_of_block HA3 1
  simp at y0 y1
  refine bodyPost_ret (v := .tuple #[placeV ps[k].1 ps[k].2, .int .i64 0]) ?_ rfl ⟨rfl, ?_⟩
  · simp [results, Try.results19, go_sem, y0, y1]
  · exact below_upd (below_upd (((Below.refl _ _).alloc (Nat.le_refl _) _).drew) hu2 (Nat.le_refl _) (fun _ (h : False) => h.elim)) ((upd_setCell w2 w.heap.size 0 (.int .i64 ps[k].1)).trans (upd_setCell _ _ 1 _)) (Nat.le_refl _) (fun j e => by omega)

theorem get_none {w : World} {b mb N : Nat} {v : Value} {ps : List (Int × Bool)} {slots : Nat} (h : IndexAt w b v mb N ps slots) (k : Nat) (hk : k < ps.length) (hp : ps[k] = (-1, false)) :
    Calls Try.prog 19 #[.pointer (some ⟨b, 0, none⟩), .int .i64 k] w fun e w' => e = .returned (.tuple #[placeV 0 false, .int .i64 14]) ∧ Below w.heap.size w w' := by
  have hu : Upd (fun _ => False) w (w.alloc (.cells #[.int .i64 0, .bool false] 36)) := (Upd.refl _ _).alloc _
  have hc0 := (hu.cellAt (o := 0) (lt_of_block h.str) (fun h => h)).trans (cell_of_block h.str 0)
  simp at hc0
  have hle := h.le
  have hbl := lt_of_block h.str
  obtain ⟨g, off, cap, rfl, hg, q0, q1⟩ := h.at hk
  rw [hp] at q0 q1
  have p0 := (hu.cellAt hg (fun h => h)).trans q0
  have p1 := (hu.cellAt hg (fun h => h)).trans q1
  have hA := heap_alloc_last w (.cells #[.int .i64 0, .bool false] 36) rfl
  have HA := Lib.hid hA
  clear h q0 q1 hA hp
  go_enter Try.func19, Try.ntmps19
  go_wp2
  go_region_held3 (fun W => W.cell? ⟨b, 0, none⟩ = some (.slice (some ⟨g, off, none⟩) ps.length cap) ∧ W.cell? ⟨g, off + k * 2, none⟩ = some (.int .i64 (-1)) ∧ W.cell? ⟨g, off + k * 2 + 1, none⟩ = some (.bool false)) (go_keep)
    ((go_at_call 48; refine (nowhere_ok _).mono ?_; rintro e w2 ⟨rfl, hu2, hz2⟩; have k0 := (hu2.cellAt (o := 0) (by simp; omega) (fun h => h)).trans hc0; have k1 := (hu2.cellAt (by simp; omega) (fun h => h)).trans p0; have k2 := (hu2.cellAt (by simp; omega) (fun h => h)).trans p1))
  have hA2 : w2.heap[w.heap.size]? = some (.cells #[.int .i64 0, .bool false] 36) := (hu2.block _ (by simp) (fun h => h)).trans HA.out
  have r0 := cell_of_block hA2 0
  have r1 := cell_of_block hA2 1
  have f0 := frozen_of_block hA2 0
  have f1 := frozen_of_block hA2 1
  simp at r0 r1
  have HA2 := Lib.hid hA2
  clear hA2
  go_wp2
  have HA3 := heap_setCell_same (heap_setCell_same HA2.out 0 (.int .i64 0)) 1 (.bool false)
  have y0 := cell_of_block HA3 0
  have y1 := cell_of_block HA3 1
  simp at y0 y1
  refine bodyPost_ret (v := .tuple #[placeV 0 false, .int .i64 14]) ?_ rfl ⟨rfl, ?_⟩
  · simp [results, Try.results19, go_sem, y0, y1]
  · exact below_upd (below_upd (((Below.refl _ _).alloc (Nat.le_refl _) _).drew) hu2 (Nat.le_refl _) (fun _ (h : False) => h.elim)) ((upd_setCell w2 w.heap.size 0 (.int .i64 0)).trans (upd_setCell _ _ 1 _)) (Nat.le_refl _) (fun j e => by omega)
end Go.Proofs.Ytmgcekpfnkcmjaa
