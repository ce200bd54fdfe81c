/- Slots: New, Alloc, Copy; the document's New, Alloc, Turn, All. The index: Put, Drop, Clean, At. A new ledger. -/
import Derived.Test.YtdpoiaejhkfocaaGreatDoorG08
import Derived.WalkSpells
import Derived.Test.YtdpoiaejhkfocaaGreatDoorG09
import Derived.Test.YtdpoiaejhkfocaaGreatDoorG06
namespace Go.Proofs.YtdpoiaejhkfocaaGreatDoor
open Go Go.RowKit

/-- The first free slot; the length where there is none. -/
def free (l : List Int) : Nat := l.findIdx (· == 0)
theorem free_le (l : List Int) : free l ≤ l.length := List.findIdx_le_length
theorem free_hit {l : List Int} {k : Nat} (h : k ≤ free l) (hk : k < l.length) (h0 : l[k] = 0) : free l = k := by
  rcases Nat.lt_or_ge k (free l) with hlt | hge
  · have := List.not_of_lt_findIdx hlt; simp [h0] at this
  · omega
theorem free_step {l : List Int} {k : Nat} (h : k ≤ free l) (hk : k < l.length) (h0 : l[k] ≠ 0) : k + 1 ≤ free l := by
  rcases Nat.lt_or_ge k (free l) with hlt | hge
  · exact hlt
  · exfalso
    have he : free l = k := by omega
    have hl : l.findIdx (· == 0) < l.length := by show free l < _; omega
    have h1 := List.findIdx_getElem (w := hl)
    have h2 : l[k] == 0 := by
      have : l.findIdx (· == 0) = k := he
      simp only [this] at h1
      exact h1
    exact h0 (by simpa using h2)

def allocVal (l : List Int) : Int := if free l < l.length then free l else 0
def allocCode (l : List Int) : Int := if free l < l.length then 0 else 17
def allocList (l : List Int) : List Int := l.set (free l) 1

theorem madeZeros (n : Nat) : madeCells #[Value.int .i64 0] (n * 1) = (ints (List.replicate n 0)).toArray := by
  apply Array.ext
  · simp [size_madeCells]
  · intro i h1 h2
    have : i % 1 = 0 := Nat.mod_one i
    simp [madeCells, ints, this]

theorem infoI : (Tryz.prog.info? 3).map (fun i => (i.zero, i.size, i.bytes)) = some (some (.int .i64 0), 1, 8) := by kernel_rfl

theorem snew_bad (n : Int) (w : World) (h : n < 1 ∨ 1024 < n) :
    Calls Tryz.prog 113 #[.int .i64 n] w fun e w' => e = .returned (.tuple #[.pointer none, .int .i64 24]) ∧ w' = w := by
  rcases h with h | h
  · go_enter Tryz.func113, Tryz.ntmps113
    go_wp2
    go_ret2
    exact ⟨rfl, rfl⟩
  · have h' : ¬ n < 1 := by omega
    go_enter Tryz.func113, Tryz.ntmps113
    go_wp2
    go_ret2
    exact ⟨rfl, rfl⟩

abbrev TS : TypeId := 235
theorem snew_ok (n : Nat) (w : World) (h1 : 1 ≤ n) (h2 : n ≤ 1024) :
    Calls Tryz.prog 113 #[.int .i64 n] w fun e w' => e = .returned (.tuple #[ptrAt (w.heap.size + 1), .int .i64 0]) ∧
      SlotsAt TS w' (w.heap.size + 1) (.slice (some ⟨w.heap.size, 0, none⟩) n n) (List.replicate n 0) ∧ Below w.heap.size w w' ∧ w'.heap.size = w.heap.size + 2 := by
  obtain ⟨i0, hi, hz0, hz1, hz2⟩ := info_parts infoI
  have hmk : ∀ w : World, (Instr.makeSlice 93 (.int .i64 n) (.int .i64 n)).run Tryz.prog w = .ok (.slice (some ⟨w.heap.size, 0, none⟩) n n) (w.alloc (.cells (ints (List.replicate n 0)).toArray 3)) := by
    intro w
    have := run_make (P := Tryz.prog) w 93 3 i0 (.int .i64 0) Tryz.underlying93 hi hz0 .i64 .i64 n n (by omega) (by omega) (by rw [hz2]; omega) (by omega)
    rw [this]
    simp only [Int.toNat_natCast, hz1, Value.cells]
    rw [madeZeros]
  have h1' : ¬ (n : Int) < 1 := by omega
  have h2' : ¬ 1024 < (n : Int) := by omega
  clear hi hz0 hz1 hz2
  go_enter Tryz.func113, Tryz.ntmps113
  go_wp2
  go_ret2
  have ha : (w.alloc (.cells (ints (List.replicate n 0)).toArray 3)).heap[w.heap.size]? = some (.cells (ints (List.replicate n 0)).toArray 3) := heap_alloc_last w _ rfl
  refine ⟨rfl, ⟨heap_alloc_last _ _ (by simp), ?_, by simp [Value.ownBlock], by simpa using h2⟩, ((Below.refl _ _).alloc (Nat.le_refl _) _).alloc (by simp) _, by simp⟩
  refine ⟨by simp, .inr ⟨w.heap.size, 0, n, (ints (List.replicate n 0)).toArray, by simp, ?_, by simp, by unfold maxLen; omega, by simp, ?_⟩⟩
  · rw [Below.heap_alloc _ _ _ (by simp)]; exact ha
  · intro j u hj; simpa using hj

section
variable {w : World} {b : Nat} {v : Value} {l : List Int}

/-- 'slices.Clone' of ints. -/
theorem clone_any {w : World} {v : Value} {l : List Int} (h : Rd w 1 v l.length (ints l)) (hle : l.length ≤ 4096) :
    Calls Tryz.prog 65 #[v] w fun e w' => ∃ v', e = .returned v' ∧ Sl w' 3 1 v' l.length (ints l) ∧ From w.heap.size v' ∧ Below w.heap.size w w' := by
  obtain ⟨i0, hi, hz0, hz1, hz2⟩ := info_parts infoI
  have H := Lib.hid h
  obtain ⟨hl, hm, ao, c, rfl, h0, _⟩ := h
  have q34 := fun (w : World) (a : Option Addr) (n c : Nat) => Lib.run_eql_slice_nil (P := Tryz.prog) w 93 3 a n c 0 0 Tryz.underlying93
  cases ao with
  | none =>
    have hn := h0 rfl
    obtain rfl : l = [] := List.eq_nil_of_length_eq_zero hn
    clear h0 hl
    go_enter Tryz.func65, Tryz.ntmps65
    go_wp2
    go_ret
    exact ⟨_, rfl, by simpa using Sl.nil _ _ _, From.nil _ _ _, Below.refl _ _⟩
  | some a =>
    clear h0 hl
    have hs0 : Sl (w.alloc (.cells #[] 3)) 3 1 (.slice (some ⟨w.heap.size, 0, none⟩) 0 0) 0 [] :=
      ⟨by simp, .inr ⟨w.heap.size, 0, 0, #[], rfl, heap_alloc_last _ _ rfl, by simp, by simp [maxLen], by simp, by simp⟩⟩
    have HR : Hid (Rd (w.alloc (.cells #[] 3)) 1 (.slice (some a) l.length c) l.length (ints l)) := H.out.keep ((Upd.refl (fun _ => False) _).alloc _) (fun _ _ h => h)
    go_enter Tryz.func65, Tryz.ntmps65
    go_wp2_with (at_builtin; refine wpList_append_sl rfl _ _ 93 rfl i0 (.int .i64 0) 8 Tryz.underlying93 hi hz0 hz1 hz2 rfl (by decide) rfl hs0 _ l.length (ints l) rfl HR.out (by simp [ints, Value.oneCell']) (by unfold maxLen; omega) (by omega) ?_)
    intro v' w2 hs2 hu2 hb2
    go_wp2
    go_ret
    refine ⟨_, rfl, by simpa using hs2, ?_, ?_⟩
    · exact hb2.ge (by simp) (by intro g hg; simp [Value.ownBlock] at hg; omega)
    · refine below_upd ((Below.refl _ _).alloc (Nat.le_refl _) _) hu2 (Nat.le_refl _) (by intro k hk; simp [ownS, Value.ownBlock] at hk; omega)

end
end Go.Proofs.YtdpoiaejhkfocaaGreatDoor

namespace Go.Proofs.YtdpoiaejhkfocaaGreatDoor
open Go Go.RowKit

/-- What Put answers. -/
def putC (ps : List (Int × Bool)) (slots : Nat) (k s : Int) : Int :=
  if k < 0 ∨ (ps.length : Int) ≤ k ∨ s < 0 ∨ (slots : Int) ≤ s then 10 else if atOf ps s = none ∨ atOf ps s = some k.toNat then 0 else 15
def putL (ps : List (Int × Bool)) (slots : Nat) (k s : Int) (d : Bool) : List (Int × Bool) := if putC ps slots k s = 0 then ps.set k.toNat (s, d) else ps
def putV (ps : List (Int × Bool)) (slots : Nat) (k s : Int) : Int × Bool := if putC ps slots k s = 0 then ps.getD k.toNat (-1, false) else (0, false)

theorem Upd.undrew {S : Nat → Prop} {w w' : World} (h : Upd S w.drew w') : Upd S w w' := ⟨h.os, h.tape, h.output, h.size, h.block⟩

/-- One cell of an owned list is turned. -/
theorem Sl.setAt {w : World} {e : TypeId} {m g off n cap : Nat} {xs : List Value} (h : Sl w e m (.slice (some ⟨g, off, none⟩) n cap) n xs) (i : Nat) (hi : i < n * m) (u : Value) :
    Sl (w.setCell ⟨g, off + i, none⟩ u) e m (.slice (some ⟨g, off, none⟩) n cap) n (xs.set i u) := by
  obtain ⟨hl, ⟨h1, _⟩ | ⟨g', off', cap', cur, h1, hg, hn, hm, hs, hc⟩⟩ := h
  · cases h1
  · cases h1
    have hle : n * m ≤ cap * m := Nat.mul_le_mul_right m hn
    refine ⟨by simpa using hl, .inr ⟨g, off, cap, _, rfl, heap_setCell_same hg _ _, hn, hm, by simpa using hs, fun j x hj => ?_⟩⟩
    by_cases hji : i = j
    · subst hji
      rw [List.getElem?_set_self (by omega)] at hj
      cases hj
      rw [Array.getElem?_setIfInBounds_self, if_pos (by omega)]
    · rw [List.getElem?_set_ne hji] at hj
      rw [Array.getElem?_setIfInBounds_ne (by omega)]
      exact hc j x hj

theorem plC_set (s : Int) (d : Bool) : ∀ (ps : List (Int × Bool)) (k : Nat), ((plC ps).set (k * 2) (.int .i64 s)).set (k * 2 + 1) (.bool d) = plC (ps.set k (s, d))
  | [], k => by simp [plC]
  | p :: ps, 0 => by simp [plC]
  | p :: ps, k + 1 => by
    have := plC_set s d ps k
    simp only [plC, List.flatMap_cons, List.set_cons_succ, List.cons_append, List.nil_append] at this ⊢
    rw [show (k + 1) * 2 = k * 2 + 1 + 1 by omega]
    simp only [List.set_cons_succ]
    rw [this]

/-- A place is turned. -/
theorem Sl.putPlace {w : World} {g off cap : Nat} {ps : List (Int × Bool)} (h : Sl w 209 2 (.slice (some ⟨g, off, none⟩) ps.length cap) ps.length (plC ps)) (k : Nat) (hk : k < ps.length) (s : Int) (d : Bool) :
    Sl ((w.setCell ⟨g, off + k * 2, none⟩ (.int .i64 s)).setCell ⟨g, off + k * 2 + 1, none⟩ (.bool d)) 209 2 (.slice (some ⟨g, off, none⟩) ps.length cap) (ps.set k (s, d)).length (plC (ps.set k (s, d))) := by
  rw [← plC_set, List.length_set, Nat.add_assoc off]
  exact (h.setAt (k * 2) (by omega) _).setAt (k * 2 + 1) (by omega) _

set_option maxRecDepth 100000 in
set_option maxHeartbeats 1000000 in
theorem put_ok {w : World} {b mb N : Nat} {v : Value} {ps : List (Int × Bool)} {slots : Nat} (h : IndexAt w b v mb N ps slots) (k : Nat) (s : Int) (d : Bool) (hk : k < ps.length) (h0 : 0 ≤ s) (h1 : s < slots) (hm : mayPut ps k s) (hN : N < maxLen) :
    Calls Tryz.prog 143 #[.pointer (some ⟨b, 0, none⟩), .int .i64 k, placeV s d] w fun e w' => e = .returned (.tuple #[placeV ps[k].1 ps[k].2, .int .i64 0]) ∧
      IndexAt w' b v mb (N + 1) (ps.set k (s, d)) slots ∧ Upd (ixS v mb) w w' := by
  have hu : Upd (fun _ => False) w ((w.alloc (.cells #[.int .i64 s, .bool d] 209)).alloc (.cells #[.int .i64 0, .bool false] 209)) := ((Upd.refl _ _).alloc _).alloc _
  have H := Lib.hid h
  have hbl := h.blt
  have hle := h.le
  have hsl := h.sl1
  have G0 := cell_of_block h.str 0
  have G1 := cell_of_block h.str 1
  have G2 := cell_of_block h.str 2
  simp at G0 G1 G2
  obtain ⟨g, off, cap, rfl, hg, P0, P1⟩ := h.at hk
  have g0 := (hu.cellAt (o := 0) hbl (fun h => h)).trans G0
  have g1 := (hu.cellAt (o := 1) hbl (fun h => h)).trans G1
  have g2 := (hu.cellAt (o := 2) hbl (fun h => h)).trans G2
  have x1 : ¬ (k : Int) < 0 := by omega
  clear h 
  go_enter Tryz.func143, Tryz.ntmps143
  go_wp2
  go_quiet (fail)
  clear g0 g1 g2
  generalize hw3 : (((w.alloc (.cells #[.int .i64 s, .bool d] 209)).alloc (.cells #[.int .i64 0, .bool false] 209)).drewN nq) = w3
  have hu3 : Upd (fun _ => False) w w3 := by rw [← hw3]; exact hu.drewN nq
  have hbx : w3.heap[w.heap.size]? = some (.cells #[.int .i64 s, .bool d] 209) := by
    rw [← hw3]; exact ((Upd.alloc (Upd.refl (fun _ => False) _) (.cells #[.int .i64 0, .bool false] 209)).block w.heap.size (by simp) (fun h => h)).trans (heap_alloc_last w _ rfl)
  have hrx : w3.heap[w.heap.size + 1]? = some (.cells #[.int .i64 0, .bool false] 209) := by
    rw [← hw3]; exact heap_alloc_last _ _ (by simp)
  have hz3 : w3.heap.size = w.heap.size + 2 := by rw [← hw3]; simp [World.drewN]
  clear hw3 hu
  have g0 := (hu3.cellAt (o := 0) hbl (fun h => h)).trans G0
  have g1 := (hu3.cellAt (o := 1) hbl (fun h => h)).trans G1
  have p0 := (hu3.cellAt hg (fun h => h)).trans P0
  have p1 := (hu3.cellAt hg (fun h => h)).trans P1
  have b0 := cell_of_block hbx 0
  have b1 := cell_of_block hbx 1
  simp at b0 b1
  have hI3 := Lib.hid (H.out.keep hu3 (fun h => h) (fun _ _ h => h))
  have HB := Lib.hid hbx
  have HR := Lib.hid hrx
  clear hbx hrx P0 P1 G2
  have hl := (show MapAt w3.drew mb N (atOf ps) from hI3.out.map).look (x := s) (by omega) (by omega)
  obtain ⟨o, c, hl', hoc⟩ : ∃ (o : Bool) (c : Nat), (Instr.lookup 148 (.map (some mb)) (.int .i64 s) true).run Tryz.prog w3.drew = .ok (.tuple #[.int .i64 (c : Int), .bool o]) w3.drew ∧ (o = false ∨ o = true ∧ c = k) := by
    refine ⟨_, _, hl, ?_⟩
    rcases hm with e | e <;> rw [e] <;> simp
  clear hl
  have HM : Hid (mayPut ps k s) := hm
  clear hm
  have hoc' : o = false ∨ o = true ∧ k = c := hoc.imp id (fun h => ⟨h.1, h.2.symm⟩)
  clear hoc
  rcases hoc' with rfl | ⟨rfl, rfl⟩
  all_goals
    go_wp2
    go_region
    clear hl'
    go_wp2
    clear b0 b1 p0 p1 g0 g1
    generalize hw4 : (w3.alloc (.cells #[.int .i64 ps[k].1, .bool ps[k].2] 209)).drew = w4
    have hu34 : Upd (fun _ => False) w3 w4 := by rw [← hw4]; exact ((Upd.refl _ _).alloc _).drew
    have hwx : w4.heap[w.heap.size + 2]? = some (.cells #[.int .i64 ps[k].1, .bool ps[k].2] 209) := by rw [← hw4, ← hz3]; exact heap_alloc_last w3 _ rfl
    have hz4 : w4.heap.size = w.heap.size + 3 := by rw [← hw4]; show (w3.alloc _).heap.size = _; simp [hz3]
    clear hw4
    have hI4 := hI3.out.keep hu34 (fun h => h) (fun _ _ h => h)
    have HB4 := (hu34.block _ (by omega) (fun h => h)).trans HB.out
    have HR4 := (hu34.block _ (by omega) (fun h => h)).trans HR.out
    have hr := hI4.good.each k hk
    obtain ⟨w5, hdel, hM5, hu45', hz5⟩ := (show MapAt w4.drew mb N (atOf ps) from hI4.map).drop (x := ps[k].1) (by rcases hr with e | e; rw [e]; decide; omega) (by rcases hr with e | e; rw [e]; decide; omega) 0
    have hu45 := hu45'.undrew
    have hz5' : w5.heap.size = w.heap.size + 3 := hz5.trans hz4
    clear hu45' hz5
    have hbm : b ≠ mb := fun e => hI4.nm e.symm
    have hgm : g ≠ mb := fun e => hI4.nv (by rw [e]; rfl)
    have hgb : g ≠ b := fun e => hI4.ne (by rw [e]; rfl)
    have hmlt := H.out.map.lt
    have W5 : Hid (w5.heap[w.heap.size + 2]? = some (.cells #[.int .i64 ps[k].1, .bool ps[k].2] 209) ∧ w5.heap[w.heap.size + 1]? = some (.cells #[.int .i64 0, .bool false] 209) ∧ w5.heap[w.heap.size]? = some (.cells #[.int .i64 s, .bool d] 209)) :=
      ⟨(hu45.block _ (by omega) (by omega)).trans hwx, (hu45.block _ (by omega) (by omega)).trans HR4, (hu45.block _ (by omega) (by omega)).trans HB4⟩
    have hS5 := Lib.hid (hI4.sl.keep hu45 (fun g' hg' e => by simp [Value.ownBlock] at hg'; omega))
    have u0 := cell_of_block hwx 0
    have m1 := cell_of_block hI4.str 1
    simp at u0 m1
    have hM5' := Lib.hid hM5
    have T5 := Lib.hid ((hu45.block _ hI4.blt hbm).trans hI4.str)
    have U5 := Lib.hid (((hu3.trans hu34).mono (S' := fun j => j = mb) (fun _ _ h => h.elim)).trans hu45)
    clear hu34 HB4 HR4 hwx hM5 hr
    go_wp2
    go_region
    clear hdel u0 m1 hu45 hI4 hz4
    obtain ⟨g', off', cap', cur, hve, hg5, hcs, hcc⟩ := hS5.out.at (by omega)
    cases hve
    have e0 := (cell_of_block hg5 (off + k * 2)).trans (hcc _ _ (plC_at hk).1)
    have e1 := (cell_of_block hg5 (off + k * 2 + 1)).trans (hcc (k * 2 + 1) _ (plC_at hk).2)
    have f0 := frozen_of_block hg5 (off + k * 2)
    have f1 := frozen_of_block hg5 (off + k * 2 + 1)
    have t0 := cell_of_block T5.out 0
    have y0 := cell_of_block W5.out.2.2 0
    have y1 := cell_of_block W5.out.2.2 1
    simp at t0 y0 y1
    clear hcs hcc hg5
    go_wp2
    go_region
    clear t0 y0 y1 e0 e1 f0 f1
    generalize hw6 : ((w5.setCell ⟨g, off + k * 2, none⟩ (.int .i64 s)).setCell ⟨g, off + k * 2 + 1, none⟩ (.bool d)).drew = w6
    have hu56 : Upd (fun j => j = g) w5 w6 := by rw [← hw6]; exact ((upd_setCell w5 g (off + k * 2) _).trans (upd_setCell _ g (off + k * 2 + 1) _)).drew
    have hS6 : Sl w6 209 2 (.slice (some ⟨g, off, none⟩) ps.length cap) (ps.set k (s, d)).length (plC (ps.set k (s, d))) := by
      rw [← hw6]; exact (hS5.out.putPlace k hk s d).keep ((Upd.refl (fun _ => False) _).drew) (fun _ _ h => h)
    have hz6 : w6.heap.size = w.heap.size + 3 := by rw [← hw6]; simp [World.drew, hz5']
    clear hw6
    have hM6 := hM5'.out.keep hu56 (fun e => hgm e.symm)
    have T6 := (hu56.block _ (by omega) (fun e => hgb e.symm)).trans T5.out
    have R6 := (hu56.block _ (by omega) (by omega)).trans W5.out.1
    have R6' := (hu56.block _ (by omega) (by omega)).trans W5.out.2.1
    have B6 := (hu56.block _ (by omega) (by omega)).trans W5.out.2.2
    obtain ⟨w7, hst, hM7, hu67', hz7⟩ := (show MapAt w6.drew mb N (upd1 (atOf ps) ps[k].1 none) from hM6).store (x := s) (by omega) (by omega) k (by omega) hN
    have hu67 := hu67'.undrew
    have t1 := cell_of_block T6 1
    have y0 := cell_of_block B6 0
    simp at t1 y0
    clear hu67'
    go_wp2
    go_region
    clear hst t1 y0
    have X7 := (hu67.block _ (by omega) (by omega)).trans R6
    have R7 := (hu67.block _ (by omega) (by omega)).trans R6'
    have T7 := (hu67.block _ (by omega) hbm).trans T6
    have S7 := hS6.keep hu67 (fun g' hg' e => by simp [Value.ownBlock] at hg'; omega)
    have hG := hI3.out.good
    have hI7 : IndexAt w7 b (.slice (some ⟨g, off, none⟩) ps.length cap) mb (N + 1) (ps.set k (s, d)) slots :=
      { str := T7, sl := by simpa using S7, map := by rw [hG.atOf_put hk d h0 h1 HM.out]; exact hM7, good := hG.put hk d h0 h1 HM.out, ne := H.out.ne, nm := H.out.nm, nv := H.out.nv, le := by simpa using hle, sl1 := hsl }
    have hz7' : w7.heap.size = w.heap.size + 3 := hz7.trans hz6
    have U7 : Upd (ixS (.slice (some ⟨g, off, none⟩) ps.length cap) mb) w w7 :=
      ((U5.out.mono (fun j _ e => .inr e)).trans (hu56.mono (fun j _ e => .inl (by rw [e]; rfl)))).trans (hu67.mono (fun j _ e => .inr e))
    have HI := Lib.hid hI7
    have HU := Lib.hid U7
    have HR7 := Lib.hid R7
    have r0 := cell_of_block R7 0
    have r1 := cell_of_block R7 1
    have q0 := frozen_of_block R7 0
    have q1 := frozen_of_block R7 1
    have x0 := cell_of_block X7 0
    have x1' := cell_of_block X7 1
    simp at r0 r1 x0 x1'
    clear X7 R7 T7 S7 hG hI7 U7 R6 R6' B6 T6 hM6 hM7 hu56 hu67 hS6 hz7
    go_wp2
    have HA3 := heap_setCell_same (heap_setCell_same HR7.out 0 (.int .i64 ps[k].1)) 1 (.bool ps[k].2)
    have y0 := cell_of_block HA3 0
    have y1 := cell_of_block HA3 1
    simp at y0 y1
    have hue : Upd (fun j => j = w.heap.size + 1) w7 ((w7.setCell ⟨w.heap.size + 1, 0, none⟩ (.int .i64 ps[k].1)).setCell ⟨w.heap.size + 1, 1, none⟩ (.bool ps[k].2)) := (upd_setCell w7 (w.heap.size + 1) 0 _).trans (upd_setCell _ _ 1 _)
    refine bodyPost_ret (v := .tuple #[placeV ps[k].1 ps[k].2, .int .i64 0]) ?_ rfl ⟨rfl, ?_, ?_⟩
    · simp [results, Tryz.results143, go_sem, y0, y1]
    · exact HI.out.keep hue (by omega) (fun j hj e => by have := H.out.slt j hj; omega)
    · exact HU.out.new (hue.mono (fun _ _ h => h)) (fun j hj e => by omega)

theorem res_none (w : World) (a : Nat) (h : w.heap[a]? = some (.cells #[.int .i64 0, .bool false] 209)) : w.cell? ⟨a, 0, none⟩ = some (.int .i64 0) ∧ w.cell? ⟨a, 1, none⟩ = some (.bool false) ∧ w.frozen? ⟨a, 0, none⟩ = false ∧ w.frozen? ⟨a, 1, none⟩ = false :=
  ⟨cell_of_block h 0, cell_of_block h 1, frozen_of_block h 0, frozen_of_block h 1⟩
theorem res_same (w : World) (a : Nat) (h : w.heap[a]? = some (.cells #[.int .i64 0, .bool false] 209)) :
    (((w.setCell ⟨a, 0, none⟩ (.int .i64 0)).setCell ⟨a, 1, none⟩ (.bool false)).cell? ⟨a, 0, none⟩ = some (.int .i64 0) ∧ ((w.setCell ⟨a, 0, none⟩ (.int .i64 0)).setCell ⟨a, 1, none⟩ (.bool false)).cell? ⟨a, 1, none⟩ = some (.bool false)) := by
  have h3 := heap_setCell_same (heap_setCell_same h 0 (.int .i64 0)) 1 (.bool false)
  have y0 := cell_of_block h3 0
  have y1 := cell_of_block h3 1
  simp at y0 y1
  exact ⟨y0, y1⟩
theorem res_below {B : Nat} {a w : World} (h : Below B a w) (x : Nat) (hx : B ≤ x) (u u' : Value) : Below B a ((w.setCell ⟨x, 0, none⟩ u).setCell ⟨x, 1, none⟩ u') :=
  (h.setCell (p := ⟨x, 0, none⟩) hx _).setCell (p := ⟨x, 1, none⟩) hx _

theorem put_nil (k s : Int) (d : Bool) (w : World) :
    Calls Tryz.prog 143 #[.pointer none, .int .i64 k, placeV s d] w fun e w' => e = .returned (.tuple #[placeV 0 false, .int .i64 2]) ∧ Below w.heap.size w w' := by
  have hrx := heap_alloc_last (w.alloc (.cells #[.int .i64 s, .bool d] 209)) (.cells #[.int .i64 0, .bool false] 209) (n := w.heap.size + 1) (by simp)
  have Y := Lib.hid (res_none _ _ hrx)
  clear hrx
  go_enter Tryz.func143, Tryz.ntmps143
  go_wp2
  refine bodyPost_ret (v := .tuple #[placeV 0 false, .int .i64 2]) ?_ rfl ⟨rfl, ?_⟩
  · simp [results, Tryz.results143, go_sem, Y.out.1, Y.out.2]
  · exact ((Below.refl _ _).alloc (Nat.le_refl _) _).alloc (by simp) _

set_option maxRecDepth 100000 in
set_option maxHeartbeats 2000000 in
theorem put_there {w : World} {b mb N : Nat} {v : Value} {ps : List (Int × Bool)} {slots : Nat} (h : IndexAt w b v mb N ps slots) (k : Nat) (s : Int) (d : Bool) (hk : k < ps.length) (h0 : 0 ≤ s) (h1 : s < slots) (hm : ¬ mayPut ps k s) :
    Calls Tryz.prog 143 #[.pointer (some ⟨b, 0, none⟩), .int .i64 k, placeV s d] w fun e w' => e = .returned (.tuple #[placeV 0 false, .int .i64 15]) ∧ Below w.heap.size w w' := by
  have hu : Upd (fun _ => False) w ((w.alloc (.cells #[.int .i64 s, .bool d] 209)).alloc (.cells #[.int .i64 0, .bool false] 209)) := ((Upd.refl _ _).alloc _).alloc _
  have H := Lib.hid h
  have hbl := h.blt
  have hle := h.le
  have hsl := h.sl1
  have G1 := cell_of_block h.str 1
  have g0 := (hu.cellAt (o := 0) hbl (fun h => h)).trans (cell_of_block h.str 0)
  have g2 := (hu.cellAt (o := 2) hbl (fun h => h)).trans (cell_of_block h.str 2)
  simp at g0 G1 g2
  obtain ⟨ao, c, rfl⟩ := h.sl.rd.nil_iff
  have x1 : ¬ (k : Int) < 0 := by omega
  obtain ⟨o, ho, hok⟩ : ∃ o : Nat, atOf ps s = some o ∧ o ≠ k := by
    cases e : atOf ps s with
    | none => exact absurd (.inl e) hm
    | some o => exact ⟨o, rfl, fun e2 => hm (.inr (by rw [e, e2]))⟩
  have hoi : ((o : Int) == (k : Int)) = false := by simp; omega
  clear h hm
  go_enter Tryz.func143, Tryz.ntmps143
  go_wp2
  go_quiet (fail)
  clear g0 g2
  generalize hw3 : (((w.alloc (.cells #[.int .i64 s, .bool d] 209)).alloc (.cells #[.int .i64 0, .bool false] 209)).drewN nq) = w3
  have hb3 : Below w.heap.size w w3 := by rw [← hw3]; exact below_drewN (((Below.refl _ _).alloc (Nat.le_refl _) _).alloc (by simp) _) _
  have hu3 : Upd (fun _ => False) w w3 := by rw [← hw3]; exact hu.drewN nq
  have hrx : w3.heap[w.heap.size + 1]? = some (.cells #[.int .i64 0, .bool false] 209) := by rw [← hw3]; exact heap_alloc_last _ _ (by simp)
  have hbx : w3.heap[w.heap.size]? = some (.cells #[.int .i64 s, .bool d] 209) := by
    rw [← hw3]; exact ((Upd.alloc (Upd.refl (fun _ => False) _) (.cells #[.int .i64 0, .bool false] 209)).block w.heap.size (by simp) (fun h => h)).trans (heap_alloc_last w _ rfl)
  clear hw3 hu
  obtain ⟨r0, r1, f0, f1⟩ := res_none _ _ hrx
  have Y := Lib.hid (res_same _ _ hrx)
  have b0 := cell_of_block hbx 0
  simp at b0
  have g1 := (hu3.cellAt hbl (fun h => h)).trans G1
  have hl := (show MapAt w3.drew mb N (atOf ps) from (MapAt.keep (w' := w3) H.out.map (S := fun _ => False) hu3 (fun h => h))).look (x := s) (by omega) (by omega)
  rw [ho] at hl
  simp only [Option.getD_some, Option.isSome_some] at hl
  clear hrx hbx hu3 G1 ho hok
  go_wp2
  go_region
  clear hl
  go_wp2
  refine bodyPost_ret (v := .tuple #[placeV 0 false, .int .i64 15]) ?_ rfl ⟨rfl, res_below (w := w3.drew) hb3.drew _ (by omega) _ _⟩
  simp [results, Tryz.results143, go_sem, Y.out.1, Y.out.2]
end Go.Proofs.YtdpoiaejhkfocaaGreatDoor

namespace Go.Proofs.YtdpoiaejhkfocaaGreatDoor
open Go Go.RowKit

theorem madeMaps (n : Nat) : madeCells #[Value.map none] (n * 1) = Array.replicate n (Value.map none) := by
  apply Array.ext
  · simp [size_madeCells]
  · intro i h1 h2
    have : i % 1 = 0 := Nat.mod_one i
    simp [madeCells, this]
theorem infoSet : (Tryz.prog.info? 239).map (fun i => (i.zero, i.size, i.bytes)) = some (some (.map none), 1, 8) := by kernel_rfl

/-- A ledger whose first sets are there. -/
structure LgTo (W w : World) (g n k : Nat) (M : List (Nat × (Int → Bool))) : Prop where
  sl : Sl w 239 1 (.slice (some ⟨g, 0, none⟩) n n) n (LgC M ++ List.replicate (n - k) (.map none))
  len : M.length = k
  sets : ∀ p ∈ M, SetAt w p.1 4097 p.2 ∧ p.2 = fun _ => false
  nd : (M.map (·.1)).Nodup
  lo : ∀ p ∈ M, W.heap.size + 2 ≤ p.1

set_option maxRecDepth 100000 in
theorem lnew_ok {S : Nat → Prop} (n bl : Nat) (w : World) (hn : ∀ j, w.heap.size ≤ j → S j) (h1 : 1 ≤ n) (h2 : n ≤ 1024) (h3 : 1 ≤ bl) (h4 : bl ≤ 4096) :
    Calls Tryz.prog 114 #[.int .i64 (n : Int), .int .i64 (bl : Int)] w fun e w' => ∃ b, e = .returned (.tuple #[.pointer (some ⟨b, 0, none⟩), .int .i64 0]) ∧
      Lg S w' b bl (List.replicate n (fun _ => false)) ∧ Below w.heap.size w w' ∧ w.heap.size ≤ b := by
  obtain ⟨i0, hi, hz0, hz1, hz2⟩ := info_parts infoSet
  have hmm := @run_makeMap Tryz.prog
  have hmk : ∀ w : World, (Instr.makeSlice 236 (.int .i64 n) (.int .i64 n)).run Tryz.prog w = .ok (.slice (some ⟨w.heap.size, 0, none⟩) n n) (w.alloc (.cells (Array.replicate n (Value.map none)) 239)) := by
    intro w
    have := run_make (P := Tryz.prog) w 236 239 i0 (.map none) Tryz.underlying236 hi hz0 .i64 .i64 n n (by omega) (by omega) (by rw [hz2]; omega) (by omega)
    rw [this]
    simp only [Int.toNat_natCast, hz1, Value.cells]
    rw [madeMaps]
  have q1 : decide ((n : Int) < 1) = false := by simp; omega
  have q2 : decide (1024 < (n : Int)) = false := by simp; omega
  have q3 : decide ((bl : Int) < 1) = false := by simp; omega
  have q4 : decide (4096 < (bl : Int)) = false := by simp; omega
  clear hi hz0 hz1 hz2
  go_enter Tryz.func114, Tryz.ntmps114
  go_wp2
  have ha : ((w.alloc (.cells (Array.replicate n (Value.map none)) 239)).alloc (.cells #[.int .i64 (bl : Int), .slice (some ⟨w.heap.size, 0, none⟩) n n] 238)).heap[w.heap.size]? = some (.cells (Array.replicate n (Value.map none)) 239) := by
    rw [Below.heap_alloc _ _ _ (by simp)]; exact heap_alloc_last w _ rfl
  have hb := heap_alloc_last (w.alloc (.cells (Array.replicate n (Value.map none)) 239)) (.cells #[.int .i64 (bl : Int), .slice (some ⟨w.heap.size, 0, none⟩) n n] 238) (n := w.heap.size + 1) (by simp)
  have hB := ((Below.refl w.heap.size w).alloc (Nat.le_refl _) (.cells (Array.replicate n (Value.map none)) 239)).alloc (by simp) (.cells #[.int .i64 (bl : Int), .slice (some ⟨w.heap.size, 0, none⟩) n n] 238)
  have hsz : ((w.alloc (.cells (Array.replicate n (Value.map none)) 239)).alloc (.cells #[.int .i64 (bl : Int), .slice (some ⟨w.heap.size, 0, none⟩) n n] 238)).heap.size = w.heap.size + 2 := by simp
  have hsl : Sl ((w.alloc (.cells (Array.replicate n (Value.map none)) 239)).alloc (.cells #[.int .i64 (bl : Int), .slice (some ⟨w.heap.size, 0, none⟩) n n] 238)) 239 1 (.slice (some ⟨w.heap.size, 0, none⟩) n n) n (List.replicate n (Value.map none)) :=
    ⟨by simp, .inr ⟨w.heap.size, 0, n, _, rfl, ha, Nat.le_refl _, by unfold maxLen; omega, by simp, fun j u hj => by rw [Nat.zero_add, ← List.toArray_replicate, List.getElem?_toArray]; exact hj⟩⟩
  generalize (w.alloc (.cells (Array.replicate n (Value.map none)) 239)).alloc (.cells #[.int .i64 (bl : Int), .slice (some ⟨w.heap.size, 0, none⟩) n n] 238) = w2 at *
  have HB := Lib.hid (And.intro hb (And.intro hB (And.intro hsz (And.intro hsl hn))))
  clear ha hb hB hsz hsl hn hmk
  go_loopw [32] (fun s32 wr => ∃ k : Nat, k ≤ n ∧ s32 = .int .i64 k ∧ (∃ M, LgTo w wr w.heap.size n k M) ∧ Upd (fun j => j = w.heap.size) w2 wr) (fun s32 _ => n - (intOf s32).toNat)
  case atStart => exact ⟨0, by omega, rfl, ⟨[], by simpa using HB.out.2.2.2.1, rfl, by simp, by simp, by simp⟩, Upd.refl _ _⟩
  case round =>
    obtain ⟨k, hk, rfl, ⟨M, hM⟩, hu⟩ := hrel
    have hstr := (hu.block _ (lt_of_block HB.out.1) (by omega)).trans HB.out.1
    have c1 := cell_of_block hstr 1
    simp at c1
    have hge := hu.size
    have hs2 := HB.out.2.2.1
    by_cases hlt : k < n
    · have b1 : (0 : Int) ≤ (k : Int) := by omega
      have b2 : (k : Int) < (n : Int) := by omega
      obtain ⟨g', off', cap', cur, he, hg, hoc, hcc⟩ := hM.sl.at (by omega)
      cases he
      have HM := Lib.hid (And.intro hM (And.intro hu (And.intro hstr hk)))
      have hc : (wr.alloc (.map #[] 0)).cell? ⟨w.heap.size, k, none⟩ = some (.map none) := by
        rw [cell_of_block ((Below.heap_alloc _ _ _ (lt_of_block hg)).trans hg)]
        have hl : (LgC M).length = k := by simp [LgC, hM.len]
        have := hcc k (.map none) (by rw [List.getElem?_append_right (by omega), hl, Nat.sub_self, List.getElem?_replicate, if_pos (by omega)])
        simpa using this
      have hf : (wr.alloc (.map #[] 0)).frozen? ⟨w.heap.size, k, none⟩ = false := frozen_of_block ((Below.heap_alloc _ _ _ (lt_of_block hg)).trans hg) k
      clear hM hu hstr hg hoc hcc hk
      have HX := Lib.hid (And.intro hs2 hge)
      clear hs2 hge
      go_wp2
      go_roundw
      case rel =>
        obtain ⟨hM, hu, hstr, hk⟩ := HM.out
        obtain ⟨hs2, hge⟩ := HX.out
        have hal : Upd (fun _ => False) wr (wr.alloc (.map #[] 0)) := (Upd.refl _ wr).alloc _
        have hsc : Upd (fun j => j = w.heap.size) (wr.alloc (.map #[] 0)) ((wr.alloc (.map #[] 0)).setCell ⟨w.heap.size, k, none⟩ (.map (some wr.heap.size))) := upd_setCell _ _ _ _
        refine ⟨k + 1, by omega, by go_num, ⟨M ++ [(wr.heap.size, fun _ => false)], ?_, by simp [hM.len], ?_, ?_, ?_⟩, (hu.trans (hal.mono (fun _ _ h => h.elim))).trans hsc⟩
        · have h3 := (hM.sl.keep hal (fun _ _ h => h)).setAt k (by omega) (.map (some wr.heap.size))
          rw [Nat.zero_add] at h3
          have e : (LgC M ++ List.replicate (n - k) (Value.map none)).set k (.map (some wr.heap.size)) = LgC (M ++ [(wr.heap.size, fun _ => false)]) ++ List.replicate (n - (k + 1)) (.map none) := by
            have : n - k = (n - (k + 1)) + 1 := by omega
            rw [this, List.replicate_succ, List.set_append_right _ _ (by simp [hM.len])]
            simp [hM.len, LgC]
          rw [e] at h3
          exact h3
        · intro p hp
          rcases List.mem_append.1 hp with hp | hp
          · refine ⟨((hM.sets p hp).1.keep hal (fun h => h)).keep hsc (fun e => ?_), (hM.sets p hp).2⟩
            have := hM.lo p hp; omega
          · simp at hp; subst hp
            exact ⟨((SetAt.made wr).mono (by omega)).keep hsc (fun e => by have e' : wr.heap.size = w.heap.size := e; omega), rfl⟩
        · rw [List.map_append, List.nodup_append]
          refine ⟨hM.nd, by simp, ?_⟩
          intro x hx y hy e
          simp at hy; subst hy
          obtain ⟨p, hp, rfl⟩ := List.mem_map.1 hx
          have := (hM.sets p hp).1.lt; omega
        · intro p hp
          rcases List.mem_append.1 hp with hp | hp
          · exact hM.lo p hp
          · simp at hp; subst hp; show _ ≤ wr.heap.size; omega
      case measure => simp [intOf]; omega
    · obtain rfl : k = n := by omega
      have HM := Lib.hid (And.intro hM (And.intro hu hstr))
      clear hM hu hstr hk hge hs2
      go_wp2
      go_ret2
      obtain ⟨hM, hu, hstr⟩ := HM.out
      obtain ⟨hb, hB, hsz, -, hn⟩ := HB.out
      have hMM : ∀ p ∈ M, p.1 < wr.heap.size := fun p hp => (hM.sets p hp).1.lt
      refine ⟨w.heap.size + 1, rfl, ⟨.slice (some ⟨w.heap.size, 0, none⟩) k k, M, ⟨hstr, by have := hM.sl; rw [hM.len]; simpa using this, fun p hp => (hM.sets p hp).1, hM.nd, fun p hp => ⟨?_, ?_⟩, by simp [Value.ownBlock], by rw [hM.len]; exact h2, ⟨h3, h4⟩, fun p hp s hs => ?_⟩, ?_, ?_⟩, below_upd hB hu (by omega) (fun j e => by omega), by omega⟩
      · have := hM.lo p hp; omega
      · have := hM.lo p hp; simp [Value.ownBlock]; omega
      · rw [(hM.sets p hp).2] at hs; simp at hs
      · apply List.ext_getElem (by simp [hM.len])
        intro i h1 h2
        simp only [List.getElem_map, List.getElem_replicate]
        exact (hM.sets _ (List.getElem_mem _)).2
      · rintro j (rfl | hj | hj)
        · exact hn _ (by omega)
        · simp [Value.ownBlock] at hj; exact hn _ (by omega)
        · obtain ⟨p, hp, rfl⟩ := List.mem_map.1 hj
          exact hn _ (by have := hM.lo p hp; omega)
end Go.Proofs.YtdpoiaejhkfocaaGreatDoor
