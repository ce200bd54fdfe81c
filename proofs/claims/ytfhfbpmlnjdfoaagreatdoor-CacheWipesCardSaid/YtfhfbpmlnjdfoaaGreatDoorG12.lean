/- The index: Put, Drop, Clean, At. The index: Put out of range. The index: Drop, Clean, At; Get, Put, Drop, Clean of whatever block. The index: At, Drop. A cache's index, slots, clock and sums, call by call. A cache: clean. The clock's Evict: may, goes (with its deferred closure). -/
import Derived.Test.YtfhfbpmlnjdfoaaGreatDoorG06
import Derived.Test.YtfhfbpmlnjdfoaaGreatDoorG11
import Derived.Test.YtfhfbpmlnjdfoaaGreatDoorG05
namespace Go.Proofs.YtfhfbpmlnjdfoaaGreatDoor
open Go Go.RowKit
def putC (ps : List (Int × Bool)) (slots : Nat) (k s : Int) : Int :=
  if k < 0 ∨ (ps.length : Int) ≤ k ∨ s < 0 ∨ (slots : Int) ≤ s then 10 else if atOf ps s = none ∨ atOf ps s = some k.toNat then 0 else 15
def putL (ps : List (Int × Bool)) (slots : Nat) (k s : Int) (d : Bool) : List (Int × Bool) := if putC ps slots k s = 0 then ps.set k.toNat (s, d) else ps
def putV (ps : List (Int × Bool)) (slots : Nat) (k s : Int) : Int × Bool := if putC ps slots k s = 0 then ps.getD k.toNat (-1, false) else (0, false)
theorem Upd.undrew {S : Nat → Prop} {w w' : World} (h : Upd S w.drew w') : Upd S w w' := ⟨h.os, h.tape, h.output, h.size, h.block⟩
theorem Sl.setAt {w : World} {e : TypeId} {m g off n cap : Nat} {xs : List Value} (h : Sl w e m (.slice (some ⟨g, off, none⟩) n cap) n xs) (i : Nat) (hi : i < n * m) (u : Value) :
    Sl (w.setCell ⟨g, off + i, none⟩ u) e m (.slice (some ⟨g, off, none⟩) n cap) n (xs.set i u) := by
  obtain ⟨hl, ⟨h1, _⟩ | ⟨g', off', cap', cur, h1, hg, hn, hm, hs, hc⟩⟩ := h
  · cases h1
  · cases h1
    have hle : n * m ≤ cap * m := Nat.mul_le_mul_right m hn
    refine ⟨by simpa using hl, .inr ⟨g, off, cap, _, rfl, heap_setCell_same hg _ _, hn, hm, by simpa using hs, fun j x hj => ?_⟩⟩
    by_cases hji : i = j
    · subst hji
      rw [List.getElem?_set_self (by omega)] at hj
      cases hj
      rw [Array.getElem?_setIfInBounds_self, if_pos (by omega)]
    · rw [List.getElem?_set_ne hji] at hj
      rw [Array.getElem?_setIfInBounds_ne (by omega)]
      exact hc j x hj
theorem plC_set (s : Int) (d : Bool) : ∀ (ps : List (Int × Bool)) (k : Nat), ((plC ps).set (k * 2) (.int .i64 s)).set (k * 2 + 1) (.bool d) = plC (ps.set k (s, d))
  | [], k => by simp [plC]
  | p :: ps, 0 => by simp [plC]
  | p :: ps, k + 1 => by
    have := plC_set s d ps k
    simp only [plC, List.flatMap_cons, List.set_cons_succ, List.cons_append, List.nil_append] at this ⊢
    rw [show (k + 1) * 2 = k * 2 + 1 + 1 by omega]
    simp only [List.set_cons_succ]
    rw [this]
theorem Sl.putPlace {w : World} {g off cap : Nat} {ps : List (Int × Bool)} (h : Sl w 95 2 (.slice (some ⟨g, off, none⟩) ps.length cap) ps.length (plC ps)) (k : Nat) (hk : k < ps.length) (s : Int) (d : Bool) :
    Sl ((w.setCell ⟨g, off + k * 2, none⟩ (.int .i64 s)).setCell ⟨g, off + k * 2 + 1, none⟩ (.bool d)) 95 2 (.slice (some ⟨g, off, none⟩) ps.length cap) (ps.set k (s, d)).length (plC (ps.set k (s, d))) := by
  rw [← plC_set, List.length_set, Nat.add_assoc off]
  exact (h.setAt (k * 2) (by omega) _).setAt (k * 2 + 1) (by omega) _
set_option maxRecDepth 100000 in
set_option maxHeartbeats 1000000 in
theorem put_ok {w : World} {b mb N : Nat} {v : Value} {ps : List (Int × Bool)} {slots : Nat} (h : IndexAt w b v mb N ps slots) (k : Nat) (s : Int) (d : Bool) (hk : k < ps.length) (h0 : 0 ≤ s) (h1 : s < slots) (hm : mayPut ps k s) (hN : N < maxLen) :
    Calls Tryz.prog 203 #[.pointer (some ⟨b, 0, none⟩), .int .i64 k, placeV s d] w fun e w' => e = .returned (.tuple #[placeV ps[k].1 ps[k].2, .int .i64 0]) ∧
      IndexAt w' b v mb (N + 1) (ps.set k (s, d)) slots ∧ Upd (ixS v mb) w w' := by
  have hu : Upd (fun _ => False) w ((w.alloc (.cells #[.int .i64 s, .bool d] 95)).alloc (.cells #[.int .i64 0, .bool false] 95)) := ((Upd.refl _ _).alloc _).alloc _
  have H := Lib.hid h
  have hbl := h.blt
  have hle := h.le
  have hsl := h.sl1
  have G0 := cell_of_block h.str 0
  have G1 := cell_of_block h.str 1
  have G2 := cell_of_block h.str 2
  simp at G0 G1 G2
  obtain ⟨g, off, cap, rfl, hg, P0, P1⟩ := h.at hk
  have g0 := (hu.cellAt (o := 0) hbl (fun h => h)).trans G0
  have g1 := (hu.cellAt (o := 1) hbl (fun h => h)).trans G1
  have g2 := (hu.cellAt (o := 2) hbl (fun h => h)).trans G2
  have x1 : ¬ (k : Int) < 0 := by omega
  clear h 
  go_enter Tryz.func203, Tryz.ntmps203
  go_wp2
  go_quiet (fail)
  clear g0 g1 g2
  generalize hw3 : (((w.alloc (.cells #[.int .i64 s, .bool d] 95)).alloc (.cells #[.int .i64 0, .bool false] 95)).drewN nq) = w3
  have hu3 : Upd (fun _ => False) w w3 := by rw [← hw3]; exact hu.drewN nq
  have hbx : w3.heap[w.heap.size]? = some (.cells #[.int .i64 s, .bool d] 95) := by
    rw [← hw3]; exact ((Upd.alloc (Upd.refl (fun _ => False) _) (.cells #[.int .i64 0, .bool false] 95)).block w.heap.size (by simp) (fun h => h)).trans (heap_alloc_last w _ rfl)
  have hrx : w3.heap[w.heap.size + 1]? = some (.cells #[.int .i64 0, .bool false] 95) := by
    rw [← hw3]; exact heap_alloc_last _ _ (by simp)
  have hz3 : w3.heap.size = w.heap.size + 2 := by rw [← hw3]; simp [World.drewN]
  clear hw3 hu
  have g0 := (hu3.cellAt (o := 0) hbl (fun h => h)).trans G0
  have g1 := (hu3.cellAt (o := 1) hbl (fun h => h)).trans G1
  have p0 := (hu3.cellAt hg (fun h => h)).trans P0
  have p1 := (hu3.cellAt hg (fun h => h)).trans P1
  have b0 := cell_of_block hbx 0
  have b1 := cell_of_block hbx 1
  simp at b0 b1
  have hI3 := Lib.hid (H.out.keep hu3 (fun h => h) (fun _ _ h => h))
  have HB := Lib.hid hbx
  have HR := Lib.hid hrx
  clear hbx hrx P0 P1 G2
  have hl := (show MapAt w3.drew mb N (atOf ps) from hI3.out.map).look (x := s) (by omega) (by omega)
  obtain ⟨o, c, hl', hoc⟩ : ∃ (o : Bool) (c : Nat), (Instr.lookup 116 (.map (some mb)) (.int .i64 s) true).run Tryz.prog w3.drew = .ok (.tuple #[.int .i64 (c : Int), .bool o]) w3.drew ∧ (o = false ∨ o = true ∧ c = k) := by
    refine ⟨_, _, hl, ?_⟩
    rcases hm with e | e <;> rw [e] <;> simp
  clear hl
  have HM : Hid (mayPut ps k s) := hm
  clear hm
  have hoc' : o = false ∨ o = true ∧ k = c := hoc.imp id (fun h => ⟨h.1, h.2.symm⟩)
  clear hoc
  rcases hoc' with rfl | ⟨rfl, rfl⟩
  all_goals
    go_wp2
    go_region
    clear hl'
    go_wp2
    clear b0 b1 p0 p1 g0 g1
    generalize hw4 : (w3.alloc (.cells #[.int .i64 ps[k].1, .bool ps[k].2] 95)).drew = w4
    have hu34 : Upd (fun _ => False) w3 w4 := by rw [← hw4]; exact ((Upd.refl _ _).alloc _).drew
    have hwx : w4.heap[w.heap.size + 2]? = some (.cells #[.int .i64 ps[k].1, .bool ps[k].2] 95) := by rw [← hw4, ← hz3]; exact heap_alloc_last w3 _ rfl
    have hz4 : w4.heap.size = w.heap.size + 3 := by rw [← hw4]; show (w3.alloc _).heap.size = _; simp [hz3]
    clear hw4
    have hI4 := hI3.out.keep hu34 (fun h => h) (fun _ _ h => h)
    have HB4 := (hu34.block _ (by omega) (fun h => h)).trans HB.out
    have HR4 := (hu34.block _ (by omega) (fun h => h)).trans HR.out
    have hr := hI4.good.each k hk
    obtain ⟨w5, hdel, hM5, hu45', hz5⟩ := (show MapAt w4.drew mb N (atOf ps) from hI4.map).drop (x := ps[k].1) (by rcases hr with e | e; rw [e]; decide; omega) (by rcases hr with e | e; rw [e]; decide; omega) 0
    have hu45 := hu45'.undrew
    have hz5' : w5.heap.size = w.heap.size + 3 := hz5.trans hz4
    clear hu45' hz5
    have hbm : b ≠ mb := fun e => hI4.nm e.symm
    have hgm : g ≠ mb := fun e => hI4.nv (by rw [e]; rfl)
    have hgb : g ≠ b := fun e => hI4.ne (by rw [e]; rfl)
    have hmlt := H.out.map.lt
    have W5 : Hid (w5.heap[w.heap.size + 2]? = some (.cells #[.int .i64 ps[k].1, .bool ps[k].2] 95) ∧ w5.heap[w.heap.size + 1]? = some (.cells #[.int .i64 0, .bool false] 95) ∧ w5.heap[w.heap.size]? = some (.cells #[.int .i64 s, .bool d] 95)) :=
      ⟨(hu45.block _ (by omega) (by omega)).trans hwx, (hu45.block _ (by omega) (by omega)).trans HR4, (hu45.block _ (by omega) (by omega)).trans HB4⟩
    have hS5 := Lib.hid (hI4.sl.keep hu45 (fun g' hg' e => by simp [Value.ownBlock] at hg'; omega))
    have u0 := cell_of_block hwx 0
    have m1 := cell_of_block hI4.str 1
    simp at u0 m1
    have hM5' := Lib.hid hM5
    have T5 := Lib.hid ((hu45.block _ hI4.blt hbm).trans hI4.str)
    have U5 := Lib.hid (((hu3.trans hu34).mono (S' := fun j => j = mb) (fun _ _ h => h.elim)).trans hu45)
    clear hu34 HB4 HR4 hwx hM5 hr
    go_wp2
    go_region
    clear hdel u0 m1 hu45 hI4 hz4
    obtain ⟨g', off', cap', cur, hve, hg5, hcs, hcc⟩ := hS5.out.at (by omega)
    cases hve
    have e0 := (cell_of_block hg5 (off + k * 2)).trans (hcc _ _ (plC_at hk).1)
    have e1 := (cell_of_block hg5 (off + k * 2 + 1)).trans (hcc (k * 2 + 1) _ (plC_at hk).2)
    have f0 := frozen_of_block hg5 (off + k * 2)
    have f1 := frozen_of_block hg5 (off + k * 2 + 1)
    have t0 := cell_of_block T5.out 0
    have y0 := cell_of_block W5.out.2.2 0
    have y1 := cell_of_block W5.out.2.2 1
    simp at t0 y0 y1
    clear hcs hcc hg5
    go_wp2
    go_region
    clear t0 y0 y1 e0 e1 f0 f1
    generalize hw6 : ((w5.setCell ⟨g, off + k * 2, none⟩ (.int .i64 s)).setCell ⟨g, off + k * 2 + 1, none⟩ (.bool d)).drew = w6
    have hu56 : Upd (fun j => j = g) w5 w6 := by rw [← hw6]; exact ((upd_setCell w5 g (off + k * 2) _).trans (upd_setCell _ g (off + k * 2 + 1) _)).drew
    have hS6 : Sl w6 95 2 (.slice (some ⟨g, off, none⟩) ps.length cap) (ps.set k (s, d)).length (plC (ps.set k (s, d))) := by
      rw [← hw6]; exact (hS5.out.putPlace k hk s d).keep ((Upd.refl (fun _ => False) _).drew) (fun _ _ h => h)
    have hz6 : w6.heap.size = w.heap.size + 3 := by rw [← hw6]; simp [World.drew, hz5']
    clear hw6
    have hM6 := hM5'.out.keep hu56 (fun e => hgm e.symm)
    have T6 := (hu56.block _ (by omega) (fun e => hgb e.symm)).trans T5.out
    have R6 := (hu56.block _ (by omega) (by omega)).trans W5.out.1
    have R6' := (hu56.block _ (by omega) (by omega)).trans W5.out.2.1
    have B6 := (hu56.block _ (by omega) (by omega)).trans W5.out.2.2
    obtain ⟨w7, hst, hM7, hu67', hz7⟩ := (show MapAt w6.drew mb N (upd1 (atOf ps) ps[k].1 none) from hM6).store (x := s) (by omega) (by omega) k (by omega) hN
    have hu67 := hu67'.undrew
    have t1 := cell_of_block T6 1
    have y0 := cell_of_block B6 0
    simp at t1 y0
    clear hu67'
    go_wp2
    go_region
    clear hst t1 y0
    have X7 := (hu67.block _ (by omega) (by omega)).trans R6
    have R7 := (hu67.block _ (by omega) (by omega)).trans R6'
    have T7 := (hu67.block _ (by omega) hbm).trans T6
    have S7 := hS6.keep hu67 (fun g' hg' e => by simp [Value.ownBlock] at hg'; omega)
    have hG := hI3.out.good
    have hI7 : IndexAt w7 b (.slice (some ⟨g, off, none⟩) ps.length cap) mb (N + 1) (ps.set k (s, d)) slots :=
      { str := T7, sl := by simpa using S7, map := by rw [hG.atOf_put hk d h0 h1 HM.out]; exact hM7, good := hG.put hk d h0 h1 HM.out, ne := H.out.ne, nm := H.out.nm, nv := H.out.nv, le := by simpa using hle, sl1 := hsl }
    have hz7' : w7.heap.size = w.heap.size + 3 := hz7.trans hz6
    have U7 : Upd (ixS (.slice (some ⟨g, off, none⟩) ps.length cap) mb) w w7 :=
      ((U5.out.mono (fun j _ e => .inr e)).trans (hu56.mono (fun j _ e => .inl (by rw [e]; rfl)))).trans (hu67.mono (fun j _ e => .inr e))
    have HI := Lib.hid hI7
    have HU := Lib.hid U7
    have HR7 := Lib.hid R7
    have r0 := cell_of_block R7 0
    have r1 := cell_of_block R7 1
    have q0 := frozen_of_block R7 0
    have q1 := frozen_of_block R7 1
    have x0 := cell_of_block X7 0
    have x1' := cell_of_block X7 1
    simp at r0 r1 x0 x1'
    clear X7 R7 T7 S7 hG hI7 U7 R6 R6' B6 T6 hM6 hM7 hu56 hu67 hS6 hz7
    go_wp2
    have HA3 := heap_setCell_same (heap_setCell_same HR7.out 0 (.int .i64 ps[k].1)) 1 (.bool ps[k].2)
    have y0 := cell_of_block HA3 0
    have y1 := cell_of_block HA3 1
    simp at y0 y1
    have hue : Upd (fun j => j = w.heap.size + 1) w7 ((w7.setCell ⟨w.heap.size + 1, 0, none⟩ (.int .i64 ps[k].1)).setCell ⟨w.heap.size + 1, 1, none⟩ (.bool ps[k].2)) := (upd_setCell w7 (w.heap.size + 1) 0 _).trans (upd_setCell _ _ 1 _)
    refine bodyPost_ret (v := .tuple #[placeV ps[k].1 ps[k].2, .int .i64 0]) ?_ rfl ⟨rfl, ?_, ?_⟩
    · simp [results, Tryz.results203, go_sem, y0, y1]
    · exact HI.out.keep hue (by omega) (fun j hj e => by have := H.out.slt j hj; omega)
    · exact HU.out.new (hue.mono (fun _ _ h => h)) (fun j hj e => by omega)
theorem res_none (w : World) (a : Nat) (h : w.heap[a]? = some (.cells #[.int .i64 0, .bool false] 95)) : w.cell? ⟨a, 0, none⟩ = some (.int .i64 0) ∧ w.cell? ⟨a, 1, none⟩ = some (.bool false) ∧ w.frozen? ⟨a, 0, none⟩ = false ∧ w.frozen? ⟨a, 1, none⟩ = false :=
  ⟨cell_of_block h 0, cell_of_block h 1, frozen_of_block h 0, frozen_of_block h 1⟩
theorem res_same (w : World) (a : Nat) (h : w.heap[a]? = some (.cells #[.int .i64 0, .bool false] 95)) :
    (((w.setCell ⟨a, 0, none⟩ (.int .i64 0)).setCell ⟨a, 1, none⟩ (.bool false)).cell? ⟨a, 0, none⟩ = some (.int .i64 0) ∧ ((w.setCell ⟨a, 0, none⟩ (.int .i64 0)).setCell ⟨a, 1, none⟩ (.bool false)).cell? ⟨a, 1, none⟩ = some (.bool false)) := by
  have h3 := heap_setCell_same (heap_setCell_same h 0 (.int .i64 0)) 1 (.bool false)
  have y0 := cell_of_block h3 0
  have y1 := cell_of_block h3 1
  simp at y0 y1
  exact ⟨y0, y1⟩
theorem res_below {B : Nat} {a w : World} (h : Below B a w) (x : Nat) (hx : B ≤ x) (u u' : Value) : Below B a ((w.setCell ⟨x, 0, none⟩ u).setCell ⟨x, 1, none⟩ u') :=
  (h.setCell (p := ⟨x, 0, none⟩) hx _).setCell (p := ⟨x, 1, none⟩) hx _
set_option maxRecDepth 100000 in
set_option maxHeartbeats 2000000 in
theorem put_there {w : World} {b mb N : Nat} {v : Value} {ps : List (Int × Bool)} {slots : Nat} (h : IndexAt w b v mb N ps slots) (k : Nat) (s : Int) (d : Bool) (hk : k < ps.length) (h0 : 0 ≤ s) (h1 : s < slots) (hm : ¬ mayPut ps k s) :
    Calls Tryz.prog 203 #[.pointer (some ⟨b, 0, none⟩), .int .i64 k, placeV s d] w fun e w' => e = .returned (.tuple #[placeV 0 false, .int .i64 15]) ∧ Below w.heap.size w w' := by
  have hu : Upd (fun _ => False) w ((w.alloc (.cells #[.int .i64 s, .bool d] 95)).alloc (.cells #[.int .i64 0, .bool false] 95)) := ((Upd.refl _ _).alloc _).alloc _
  have H := Lib.hid h
  have hbl := h.blt
  have hle := h.le
  have hsl := h.sl1
  have G1 := cell_of_block h.str 1
  have g0 := (hu.cellAt (o := 0) hbl (fun h => h)).trans (cell_of_block h.str 0)
  have g2 := (hu.cellAt (o := 2) hbl (fun h => h)).trans (cell_of_block h.str 2)
  simp at g0 G1 g2
  obtain ⟨ao, c, rfl⟩ := h.sl.rd.nil_iff
  have x1 : ¬ (k : Int) < 0 := by omega
  obtain ⟨o, ho, hok⟩ : ∃ o : Nat, atOf ps s = some o ∧ o ≠ k := by
    cases e : atOf ps s with
    | none => exact absurd (.inl e) hm
    | some o => exact ⟨o, rfl, fun e2 => hm (.inr (by rw [e, e2]))⟩
  have hoi : ((o : Int) == (k : Int)) = false := by simp; omega
  clear h hm
  go_enter Tryz.func203, Tryz.ntmps203
  go_wp2
  go_quiet (fail)
  clear g0 g2
  generalize hw3 : (((w.alloc (.cells #[.int .i64 s, .bool d] 95)).alloc (.cells #[.int .i64 0, .bool false] 95)).drewN nq) = w3
  have hb3 : Below w.heap.size w w3 := by rw [← hw3]; exact below_drewN (((Below.refl _ _).alloc (Nat.le_refl _) _).alloc (by simp) _) _
  have hu3 : Upd (fun _ => False) w w3 := by rw [← hw3]; exact hu.drewN nq
  have hrx : w3.heap[w.heap.size + 1]? = some (.cells #[.int .i64 0, .bool false] 95) := by rw [← hw3]; exact heap_alloc_last _ _ (by simp)
  have hbx : w3.heap[w.heap.size]? = some (.cells #[.int .i64 s, .bool d] 95) := by
    rw [← hw3]; exact ((Upd.alloc (Upd.refl (fun _ => False) _) (.cells #[.int .i64 0, .bool false] 95)).block w.heap.size (by simp) (fun h => h)).trans (heap_alloc_last w _ rfl)
  clear hw3 hu
  obtain ⟨r0, r1, f0, f1⟩ := res_none _ _ hrx
  have Y := Lib.hid (res_same _ _ hrx)
  have b0 := cell_of_block hbx 0
  simp at b0
  have g1 := (hu3.cellAt hbl (fun h => h)).trans G1
  have hl := (show MapAt w3.drew mb N (atOf ps) from (MapAt.keep (w' := w3) H.out.map (S := fun _ => False) hu3 (fun h => h))).look (x := s) (by omega) (by omega)
  rw [ho] at hl
  simp only [Option.getD_some, Option.isSome_some] at hl
  clear hrx hbx hu3 G1 ho hok
  go_wp2
  go_region
  clear hl
  go_wp2
  refine bodyPost_ret (v := .tuple #[placeV 0 false, .int .i64 15]) ?_ rfl ⟨rfl, res_below (w := w3.drew) hb3.drew _ (by omega) _ _⟩
  simp [results, Tryz.results203, go_sem, Y.out.1, Y.out.2]
set_option maxRecDepth 100000 in
set_option maxHeartbeats 2000000 in
theorem put_out {w : World} {b mb N : Nat} {v : Value} {ps : List (Int × Bool)} {slots : Nat} (h : IndexAt w b v mb N ps slots) (k s : Int) (d : Bool) (ho : k < 0 ∨ (ps.length : Int) ≤ k ∨ s < 0 ∨ (slots : Int) ≤ s) :
    Calls Tryz.prog 203 #[.pointer (some ⟨b, 0, none⟩), .int .i64 k, placeV s d] w fun e w' => e = .returned (.tuple #[placeV 0 false, .int .i64 10]) ∧ Below w.heap.size w w' := by
  have hu : Upd (fun _ => False) w ((w.alloc (.cells #[.int .i64 s, .bool d] 95)).alloc (.cells #[.int .i64 0, .bool false] 95)) := ((Upd.refl _ _).alloc _).alloc _
  have hbl := h.blt
  have hle := h.le
  have hsl := h.sl1
  have g0 := (hu.cellAt (o := 0) hbl (fun h => h)).trans (cell_of_block h.str 0)
  have g2 := (hu.cellAt (o := 2) hbl (fun h => h)).trans (cell_of_block h.str 2)
  simp at g0 g2
  obtain ⟨ao, c, rfl⟩ := h.sl.rd.nil_iff
  clear h hu
  have ho' : k < 0 ∨ (¬ k < 0 ∧ (ps.length : Int) ≤ k) ∨ (¬ k < 0 ∧ ¬ (ps.length : Int) ≤ k ∧ s < 0) ∨ (¬ k < 0 ∧ ¬ (ps.length : Int) ≤ k ∧ ¬ s < 0 ∧ (slots : Int) ≤ s) := by omega
  clear ho
  rcases ho' with h1 | ⟨h1, h2⟩ | ⟨h1, h2, h3⟩ | ⟨h1, h2, h3, h4⟩
  case' inr.inl =>
    have d1 : decide (k < 0) = false := by simpa using h1
    have d2 : decide ((ps.length : Int) ≤ k) = true := by simpa using h2
  case' inr.inr.inl =>
    have d1 : decide (k < 0) = false := by simpa using h1
    have d2 : decide ((ps.length : Int) ≤ k) = false := by simpa using h2
    have d3 : decide (s < 0) = true := by simpa using h3
  case' inr.inr.inr =>
    have d1 : decide (k < 0) = false := by simpa using h1
    have d2 : decide ((ps.length : Int) ≤ k) = false := by simpa using h2
    have d3 : decide (s < 0) = false := by simpa using h3
    have d4 : decide ((slots : Int) ≤ s) = true := by simpa using h4
  all_goals
    go_enter Tryz.func203, Tryz.ntmps203
    go_wp2
    go_quiet (fail)
    clear g0 g2
    generalize hw3 : (((w.alloc (.cells #[.int .i64 s, .bool d] 95)).alloc (.cells #[.int .i64 0, .bool false] 95)).drewN nq) = w3
    have hb3 : Below w.heap.size w w3 := by rw [← hw3]; exact below_drewN (((Below.refl _ _).alloc (Nat.le_refl _) _).alloc (by simp) _) _
    have hrx : w3.heap[w.heap.size + 1]? = some (.cells #[.int .i64 0, .bool false] 95) := by rw [← hw3]; exact heap_alloc_last _ _ (by simp)
    clear hw3
    obtain ⟨r0, r1, f0, f1⟩ := res_none _ _ hrx
    have Y := Lib.hid (res_same _ _ hrx)
    clear hrx
    go_wp2
    refine bodyPost_ret (v := .tuple #[placeV 0 false, .int .i64 10]) ?_ rfl ⟨rfl, res_below hb3 _ (by omega) _ _⟩
    simp [results, Tryz.results203, go_sem, Y.out.1, Y.out.2]
theorem getD_at {ps : List (Int × Bool)} {n : Nat} (h : n < ps.length) : ps.getD n (-1, false) = ps[n] := by simp [List.getD, h]
theorem get_any {w : World} {b mb N : Nat} {v : Value} {ps : List (Int × Bool)} {slots : Nat} (h : IndexAt w b v mb N ps slots) (k : Int) :
    Calls Tryz.prog 100 #[.pointer (some ⟨b, 0, none⟩), .int .i64 k] w fun e w' => e = .returned (.tuple #[placeV (getV ps k).1 (getV ps k).2, .int .i64 (getC ps k)]) ∧ Below w.heap.size w w' := by
  by_cases ho : k < 0 ∨ (ps.length : Int) ≤ k
  · simp only [getV, getC, if_pos ho]; exact get_out h k ho
  · obtain ⟨n, rfl⟩ : ∃ n : Nat, k = n := ⟨k.toNat, by omega⟩
    have hn : n < ps.length := by omega
    simp only [getV, getC, if_neg ho, Int.toNat_natCast, getD_at hn]
    rcases h.good.each n hn with e | e
    · simp only [e, if_true]; exact get_none h n hn e
    · have h1 : ps[n].1 ≠ -1 := by omega
      have h2 : ps[n] ≠ (-1, false) := fun e => h1 (by rw [e])
      simp only [if_neg h2]; exact get_some h n hn h1
theorem put_any {w : World} {b mb N : Nat} {v : Value} {ps : List (Int × Bool)} {slots : Nat} (h : IndexAt w b v mb N ps slots) (k s : Int) (d : Bool) (hN : N < maxLen) :
    Calls Tryz.prog 203 #[.pointer (some ⟨b, 0, none⟩), .int .i64 k, placeV s d] w fun e w' => e = .returned (.tuple #[placeV (putV ps slots k s).1 (putV ps slots k s).2, .int .i64 (putC ps slots k s)]) ∧
      IndexAt w' b v mb (N + 1) (putL ps slots k s d) slots ∧ Upd (ixS v mb) w w' := by
  by_cases ho : k < 0 ∨ (ps.length : Int) ≤ k ∨ s < 0 ∨ (slots : Int) ≤ s
  · have e : putC ps slots k s = 10 := by unfold putC; rw [if_pos ho]
    simp only [putV, putL, e, if_neg (show ¬ (10 : Int) = 0 by decide)]
    exact (put_out h k s d ho).mono fun e w' ⟨he, hb⟩ => ⟨he, (h.below hb).mono (Nat.le_succ _), Upd.of_below hb⟩
  · obtain ⟨n, rfl⟩ : ∃ n : Nat, k = n := ⟨k.toNat, by omega⟩
    have hn : n < ps.length := by omega
    by_cases hm : mayPut ps n s
    · have e : putC ps slots n s = 0 := by
        unfold putC
        rw [if_neg ho, if_pos (by simpa [mayPut] using hm)]
      simp only [putV, putL, e, if_true, Int.toNat_natCast, getD_at hn]
      exact put_ok h n s d hn (by omega) (by omega) hm hN
    · have e : putC ps slots n s = 15 := by
        unfold putC
        rw [if_neg ho, if_neg (by simpa [mayPut] using hm)]
      simp only [putV, putL, e, if_neg (show ¬ (15 : Int) = 0 by decide)]
      exact (put_there h n s d hn (by omega) (by omega) hm).mono fun e w' ⟨he, hb⟩ => ⟨he, (h.below hb).mono (Nat.le_succ _), Upd.of_below hb⟩
theorem set_same {α : Type} {l : List α} {i : Nat} {x : α} (h : l[i]? = some x) : l.set i x = l := by
  obtain ⟨hi, rfl⟩ := List.getElem?_eq_some_iff.1 h
  exact List.set_getElem_self hi
def dropL (ps : List (Int × Bool)) (k : Int) : List (Int × Bool) := if getC ps k = 0 then ps.set k.toNat (-1, false) else ps
def cleanL (ps : List (Int × Bool)) (k : Int) : List (Int × Bool) := if getC ps k = 0 then ps.set k.toNat ((getV ps k).1, false) else ps
theorem getC_zero {ps : List (Int × Bool)} {slots : Nat} (h : Good ps slots) {k : Int} (hc : getC ps k = 0) : ∃ (n : Nat) (hn : n < ps.length), k = n ∧ 0 ≤ ps[n].1 ∧ ps[n].1 < slots ∧ getV ps k = ps[n] := by
  unfold getC at hc
  by_cases ho : k < 0 ∨ (ps.length : Int) ≤ k
  · rw [if_pos ho] at hc; cases hc
  · rw [if_neg ho] at hc
    obtain ⟨n, rfl⟩ : ∃ n : Nat, k = n := ⟨k.toNat, by omega⟩
    have hn : n < ps.length := by omega
    simp only [Int.toNat_natCast, getD_at hn] at hc
    by_cases e : ps[n] = (-1, false)
    · simp [e] at hc
    · refine ⟨n, hn, rfl, ?_, ?_, ?_⟩
      · rcases h.each n hn with e' | e'; exact absurd e' e; exact e'.1
      · rcases h.each n hn with e' | e'; exact absurd e' e; exact e'.2
      · simp only [getV, if_neg ho, Int.toNat_natCast, getD_at hn, if_neg e]
theorem getV_bad {ps : List (Int × Bool)} {k : Int} (hc : getC ps k ≠ 0) : getV ps k = (0, false) := by
  unfold getC at hc
  unfold getV
  split
  · rfl
  · rename_i h
    rw [if_neg h] at hc
    split
    · rfl
    · rename_i h2
      rw [if_neg h2] at hc
      exact absurd rfl hc
set_option maxRecDepth 100000 in
set_option maxHeartbeats 1000000 in
theorem clean_any {w : World} {b mb N : Nat} {v : Value} {ps : List (Int × Bool)} {slots : Nat} (h : IndexAt w b v mb N ps slots) (k : Int) :
    Calls Tryz.prog 241 #[.pointer (some ⟨b, 0, none⟩), .int .i64 k] w fun e w' => e = .returned (.int .i64 (getC ps k)) ∧
      IndexAt w' b v mb N (cleanL ps k) slots ∧ Upd (ixS v mb) w w' := by
  have H := Lib.hid h
  by_cases hc : getC ps k = 0
  · obtain ⟨n, hn, rfl, h0, h1, hv⟩ := getC_zero h.good hc
    have hL : Hid (cleanL ps n = ps.set n (ps[n].1, false)) := by show _ = _; simp [cleanL, hc, hv]
    have hV := Lib.hid hv
    have hle := h.le
    clear hv h
    have hC := hc
    rw [hc]
    clear hc
    go_enter Tryz.func241, Tryz.ntmps241
    go_wp2_with fail
    refine (get_any H.out n).mono ?_
    rintro e w1 ⟨rfl, hb1⟩
    have hz1 := hb1.size
    have hu1 : Upd (fun _ => False) w (w1.alloc (.cells #[.int .i64 ps[n].1, .bool ps[n].2] 95)) := (Upd.of_below hb1).alloc _
    have hI := H.out.keep hu1 (fun h => h) (fun _ _ h => h)
    have t0 := cell_of_block hI.str 0
    simp at t0
    obtain ⟨g, off, cap, cur, rfl, hg, _, hcc⟩ := hI.sl.at (by omega)
    have e1 := (cell_of_block hg (off + n * 2 + 1)).trans (hcc (n * 2 + 1) _ (plC_at hn).2)
    have f1 := frozen_of_block hg (off + n * 2 + 1)
    have hc0 : (getC ps n == 0) = true := by simpa using hC
    have HI := Lib.hid hI
    have HU := Lib.hid hu1
    rw [hC, hV.out]
    clear hg hcc hI hu1 hc0
    go_wp2
    go_ret
    have hS := HI.out.sl.setAt (n * 2 + 1) (by omega) (.bool false)
    rw [← Nat.add_assoc off] at hS
    have hus : Upd (fun j => j = g) (w1.alloc (.cells #[.int .i64 ps[n].1, .bool ps[n].2] 95)) ((w1.alloc (.cells #[.int .i64 ps[n].1, .bool ps[n].2] 95)).setCell ⟨g, off + n * 2 + 1, none⟩ (.bool false)) := upd_setCell _ _ _ _
    have hgb : g ≠ b := fun e => HI.out.ne (by rw [e]; rfl)
    have hgm : g ≠ mb := fun e => HI.out.nv (by rw [e]; rfl)
    rw [hL.out]
    refine ⟨rfl, { str := (hus.block _ HI.out.blt (fun e => hgb e.symm)).trans HI.out.str, sl := ?_, map := ?_, good := HI.out.good.clean hn h0, ne := HI.out.ne, nm := HI.out.nm, nv := HI.out.nv, le := by simpa using hle, sl1 := HI.out.sl1 }, ?_⟩
    · rw [← plC_set, List.length_set]
      have e2 : (plC ps).set (n * 2) (.int .i64 ps[n].1) = plC ps := set_same (plC_at hn).1
      rw [e2]
      simpa using hS
    · rw [HI.out.good.atOf_clean hn h0]
      exact HI.out.map.keep hus (fun e => hgm e.symm)
    · exact (HU.out.mono (fun _ _ h => h.elim)).trans (hus.mono (fun j _ e => .inl (by rw [e]; rfl)))
  · have hL : cleanL ps k = ps := by simp [cleanL, hc]
    rw [hL]
    obtain ⟨c, hcc⟩ : ∃ c, c = getC ps k := ⟨_, rfl⟩
    obtain ⟨z, hz⟩ : ∃ z, z = getV ps k := ⟨_, rfl⟩
    rw [← hcc] at hc
    rw [← hcc]
    have hc' : (c == 0) = false := by simpa using hc
    clear hL h
    have HG := Lib.hid (get_any H.out k)
    rw [← hcc, ← hz] at HG
    clear hcc hz
    go_enter Tryz.func241, Tryz.ntmps241
    go_wp2_with fail
    refine HG.out.mono ?_
    rintro e w1 ⟨rfl, hb1⟩
    go_wp2
    go_ret
    exact ⟨rfl, (H.out.below hb1).keep ((Upd.refl (fun _ => False) _).alloc _) (fun h => h) (fun _ _ h => h), (Upd.of_below hb1).alloc _⟩
set_option maxRecDepth 100000 in
set_option maxHeartbeats 1000000 in
theorem drop_bad {w : World} {b mb N : Nat} {v : Value} {ps : List (Int × Bool)} {slots : Nat} (h : IndexAt w b v mb N ps slots) (k : Int) (hc : getC ps k ≠ 0) :
    Calls Tryz.prog 240 #[.pointer (some ⟨b, 0, none⟩), .int .i64 k] w fun e w' => e = .returned (.tuple #[placeV 0 false, .int .i64 (getC ps k)]) ∧ Below w.heap.size w w' := by
  have H := Lib.hid (h.keep ((Upd.refl (fun _ => False) w).alloc (.cells #[.int .i64 0, .bool false] 95)) (fun h => h) (fun _ _ h => h))
  obtain ⟨c, hcc⟩ : ∃ c, c = getC ps k := ⟨_, rfl⟩
  obtain ⟨z, hz⟩ : ∃ z, z = getV ps k := ⟨_, rfl⟩
  have HG := get_any H.out k
  rw [← hcc, ← hz] at HG
  have HG' := Lib.hid HG
  rw [← hcc] at hc
  rw [← hcc]
  have hc' : (c == 0) = false := by simpa using hc
  clear hcc hz h H hc HG
  go_enter Tryz.func240, Tryz.ntmps240
  go_wp2_with fail
  refine HG'.out.mono ?_
  rintro e w1 ⟨rfl, hb1⟩
  have hz1 := hb1.size
  simp at hz1
  have hB := below_upd ((Below.refl _ w).alloc (Nat.le_refl _) _) (Upd.of_below (S := fun _ => False) hb1) (Nat.le_refl _) (fun _ h => h.elim)
  have hrx : (w1.alloc (.cells #[.int .i64 z.1, .bool z.2] 95)).heap[w.heap.size]? = some (.cells #[.int .i64 0, .bool false] 95) :=
    (((Upd.of_below (S := fun _ => False) hb1).alloc _).block _ (by simp) (fun h => h)).trans (heap_alloc_last w _ rfl)
  obtain ⟨r0, r1, f0, f1⟩ := res_none _ _ hrx
  have Y := Lib.hid (res_same _ _ hrx)
  clear hrx HG'
  go_wp2
  refine bodyPost_ret (v := .tuple #[placeV 0 false, .int .i64 c]) ?_ rfl ⟨rfl, res_below (hB.alloc (by omega) _) _ (by omega) _ _⟩
  simp [results, Tryz.results240, go_sem, Y.out.1, Y.out.2]
set_option maxRecDepth 100000 in
set_option maxHeartbeats 1000000 in
theorem drop_ok {w : World} {b mb N : Nat} {v : Value} {ps : List (Int × Bool)} {slots : Nat} (h : IndexAt w b v mb N ps slots) (n : Nat) (hn : n < ps.length) (h0 : 0 ≤ ps[n].1) :
    Calls Tryz.prog 240 #[.pointer (some ⟨b, 0, none⟩), .int .i64 n] w fun e w' => e = .returned (.tuple #[placeV ps[n].1 ps[n].2, .int .i64 0]) ∧
      IndexAt w' b v mb N (ps.set n (-1, false)) slots ∧ Upd (ixS v mb) w w' := by
  have hgood := h.good
  have hr := hgood.each n hn
  have hsl := h.sl1
  have hle := h.le
  have hw : Upd (fun _ => False) w (w.alloc (.cells #[.int .i64 0, .bool false] 95)) := (Upd.refl (fun _ => False) w).alloc (.cells #[.int .i64 0, .bool false] 95)
  have H := Lib.hid h
  have HG := Lib.hid (get_some (h.keep hw (fun h => h) (fun _ _ h => h)) n hn (by omega))
  clear h
  go_enter Tryz.func240, Tryz.ntmps240
  go_wp2_with fail
  refine HG.out.mono ?_
  rintro e w1 ⟨rfl, hb1⟩
  have hz1 := hb1.size
  simp at hz1
  clear HG
  have hu1 : Upd (fun _ => False) w (w1.alloc (.cells #[.int .i64 ps[n].1, .bool ps[n].2] 95)) := (hw.trans (Upd.of_below hb1 |>.mono (S' := fun _ => False) (fun _ _ h => h))).alloc _
  have hgx : (w1.alloc (.cells #[.int .i64 ps[n].1, .bool ps[n].2] 95)).heap[w1.heap.size]? = some (.cells #[.int .i64 ps[n].1, .bool ps[n].2] 95) := heap_alloc_last w1 _ rfl
  have hrx : (w1.alloc (.cells #[.int .i64 ps[n].1, .bool ps[n].2] 95)).heap[w.heap.size]? = some (.cells #[.int .i64 0, .bool false] 95) :=
    (((Upd.of_below (S := fun _ => False) hb1).alloc _).block _ (by simp) (fun h => h)).trans (heap_alloc_last w _ rfl)
  go_wp2
  generalize hw2 : (w1.alloc (.cells #[.int .i64 ps[n].1, .bool ps[n].2] 95)) = w2
  rw [hw2] at hu1 hgx hrx
  have hz2 : w2.heap.size = w1.heap.size + 1 := by rw [← hw2]; simp
  clear hw2 hb1 hw
  have hI2 := H.out.keep hu1 (fun h => h) (fun _ _ h => h)
  obtain ⟨w3, hdel, hM3, hu23', hz3⟩ := (show MapAt w2.drew mb N (atOf ps) from hI2.map).drop (x := ps[n].1) (by omega) (by rcases hr with e | e; rw [e]; decide; omega) 0
  have hu23 := hu23'.undrew
  obtain ⟨g, off, cap, rfl, hg, P0, P1⟩ := hI2.at hn
  have hbm : b ≠ mb := fun e => hI2.nm e.symm
  have hgm : g ≠ mb := fun e => hI2.nv (by rw [e]; rfl)
  have hgb : g ≠ b := fun e => hI2.ne (by rw [e]; rfl)
  have hmlt := H.out.map.lt
  have hblt := H.out.blt
  have hglt := H.out.sl.lt (g := g) rfl
  have T2 := cell_of_block hI2.str 1
  have u0 := cell_of_block hgx 0
  simp at T2 u0
  have G3 := (hu23.block _ (by omega) (by omega)).trans hgx
  have R3 := (hu23.block _ (by omega) (by omega)).trans hrx
  have T3 := (hu23.block _ hI2.blt hbm).trans hI2.str
  have S3 := hI2.sl.keep hu23 (fun g' hg' e => by simp [Value.ownBlock] at hg'; omega)
  have HM3 := Lib.hid hM3
  have HZ3 : w3.heap.size = w1.heap.size + 1 := hz3.trans hz2
  have HU3 := Lib.hid ((hu1.mono (S' := fun j => j = mb) (fun _ _ h => h.elim)).trans hu23)
  clear hu1 hgx hrx hz2 hI2 P0 P1 hu23' hu23 hM3 hg hz3
  go_wp2
  go_region
  clear hdel T2 u0
  have t0 := cell_of_block T3 0
  simp at t0
  obtain ⟨g', off', cap', cur, hve, hg3, hcs, hcc⟩ := S3.at (by omega)
  cases hve
  have HG3 := Lib.hid G3
  have HR3 := Lib.hid R3
  have HT3 := Lib.hid T3
  have HS3 := Lib.hid S3
  have E0 := (cell_of_block hg3 (off + n * 2)).trans (hcc _ _ (plC_at hn).1)
  have E1 := (cell_of_block hg3 (off + n * 2 + 1)).trans (hcc (n * 2 + 1) _ (plC_at hn).2)
  have F0 := frozen_of_block hg3 (off + n * 2)
  have F1 := frozen_of_block hg3 (off + n * 2 + 1)
  have hg3' := lt_of_block hg3
  have hb3' := lt_of_block T3
  clear G3 R3 T3 S3 hcs hcc hg3
  go_wp2
  go_region_held3 (fun W => W.cell? ⟨b, 0, none⟩ = some (.slice (some ⟨g, off, none⟩) ps.length cap)) (go_keep)
    ((go_at_call 173; refine (nowhere_ok _).mono ?_; rintro e w4 ⟨rfl, hu4, hz4⟩; have k0 := (hu4.cellAt (o := 0) (by simp; omega) (fun h => h)).trans t0; have k1 := (hu4.cellAt (by simp; omega) (fun h => h)).trans E0; have k2 := (hu4.cellAt (by simp; omega) (fun h => h)).trans E1; have k3 := (hu4.frozenAt (by simp; omega) (fun h => h)).trans F0; have k4 := (hu4.frozenAt (by simp; omega) (fun h => h)).trans F1))
  generalize hw5 : ((w4.setCell ⟨g, off + n * 2, none⟩ (.int .i64 (-1))).setCell ⟨g, off + n * 2 + 1, none⟩ (.bool false)) = w5
  have hu34 : Upd (fun _ => False) w3 w4 := hu4.undrew
  have hu45 : Upd (fun j => j = g) w4 w5 := by rw [← hw5]; exact (upd_setCell w4 g (off + n * 2) _).trans (upd_setCell _ g (off + n * 2 + 1) _)
  have S4 := HS3.out.keep hu34 (fun _ _ h => h)
  have S5 : Sl w5 95 2 (.slice (some ⟨g, off, none⟩) ps.length cap) (ps.set n (-1, false)).length (plC (ps.set n (-1, false))) := by
    rw [← hw5]; exact S4.putPlace n hn (-1) false
  have hz5 : w5.heap.size = w1.heap.size + 2 := by rw [← hw5]; simp [hz4]; simp [HZ3]
  clear hw5 k0 k1 k2 k3 k4 E0 E1 F0 F1 t0
  have hu35 := (hu34.mono (S' := fun j => j = g) (fun _ _ h => h.elim)).trans hu45
  have M5 := HM3.out.keep hu35 (fun e => hgm e.symm)
  have T5 := (hu35.block _ (by omega) (fun e => hgb e.symm)).trans HT3.out
  have G5 := (hu35.block _ (by omega) (by omega)).trans HG3.out
  have R5 := (hu35.block _ (by omega) (by omega)).trans HR3.out
  have HI5 : Hid (IndexAt w5 b (.slice (some ⟨g, off, none⟩) ps.length cap) mb N (ps.set n (-1, false)) slots) :=
    { str := T5, sl := by simpa using S5, map := by rw [hgood.atOf_drop hn]; exact M5, good := hgood.drop n, ne := H.out.ne, nm := H.out.nm, nv := H.out.nv, le := by simpa using hle, sl1 := hsl }
  have HU5 : Hid (Upd (ixS (.slice (some ⟨g, off, none⟩) ps.length cap) mb) w w5) :=
    (HU3.out.mono (fun j _ e => .inr e)).trans (hu35.mono (fun j _ e => .inl (by rw [e]; rfl)))
  have HR5 := Lib.hid R5
  have r0 := cell_of_block R5 0
  have r1 := cell_of_block R5 1
  have q0 := frozen_of_block R5 0
  have q1 := frozen_of_block R5 1
  have x0 := cell_of_block G5 0
  have x1 := cell_of_block G5 1
  simp at r0 r1 x0 x1
  clear hu34 hu45 S4 S5 hu35 M5 T5 G5 R5 hz4 hu4
  go_wp2
  have HA3 := heap_setCell_same (heap_setCell_same HR5.out 0 (.int .i64 ps[n].1)) 1 (.bool ps[n].2)
  have y0 := cell_of_block HA3 0
  have y1 := cell_of_block HA3 1
  simp at y0 y1
  have hue : Upd (fun j => j = w.heap.size) w5 ((w5.setCell ⟨w.heap.size, 0, none⟩ (.int .i64 ps[n].1)).setCell ⟨w.heap.size, 1, none⟩ (.bool ps[n].2)) := (upd_setCell w5 w.heap.size 0 _).trans (upd_setCell _ _ 1 _)
  refine bodyPost_ret (v := .tuple #[placeV ps[n].1 ps[n].2, .int .i64 0]) ?_ rfl ⟨rfl, ?_, ?_⟩
  · simp [results, Tryz.results240, go_sem, y0, y1]
  · exact HI5.out.keep hue (by omega) (fun j hj e => by have := H.out.slt j hj; omega)
  · exact HU5.out.new (hue.mono (fun _ _ h => h)) (fun j hj e => by omega)
theorem drop_any {w : World} {b mb N : Nat} {v : Value} {ps : List (Int × Bool)} {slots : Nat} (h : IndexAt w b v mb N ps slots) (k : Int) :
    Calls Tryz.prog 240 #[.pointer (some ⟨b, 0, none⟩), .int .i64 k] w fun e w' => e = .returned (.tuple #[placeV (getV ps k).1 (getV ps k).2, .int .i64 (getC ps k)]) ∧
      IndexAt w' b v mb N (dropL ps k) slots ∧ Upd (ixS v mb) w w' := by
  by_cases hc : getC ps k = 0
  · obtain ⟨n, hn, rfl, h0, h1, hv⟩ := getC_zero h.good hc
    have hL : dropL ps n = ps.set n (-1, false) := by simp [dropL, hc]
    rw [hL, hv, hc]
    exact drop_ok h n hn h0
  · have hL : dropL ps k = ps := by simp [dropL, hc]
    rw [hL, getV_bad hc]
    exact (drop_bad h k hc).mono fun e w' ⟨he, hb⟩ => ⟨he, h.below hb, Upd.of_below hb⟩
theorem putL_ln (ps : List (Int × Bool)) (slots : Nat) (k s : Int) (d : Bool) : (putL ps slots k s d).length = ps.length := by unfold putL; split <;> simp
theorem dropL_ln (ps : List (Int × Bool)) (k : Int) : (dropL ps k).length = ps.length := by unfold dropL; split <;> simp
theorem cleanL_ln (ps : List (Int × Bool)) (k : Int) : (cleanL ps k).length = ps.length := by unfold cleanL; split <;> simp
theorem turnList_ln (l : List Int) (s t : Int) : (turnList l s t).length = l.length := by unfold turnList; split <;> simp
section
variable {own : Nat → Nat} {w w' : World} {c : Nat} {n : CaN} {p : CaP} {a : CaS}
theorem ca_get (h : CaAt own w c n p a) (k : Int) :
    Calls Tryz.prog 100 #[ptr p.ix, .int .i64 k] w (CaOut own w c n p a (.tuple #[placeV (getV a.ps k).1 (getV a.ps k).2, .int .i64 (getC a.ps k)])) := by
  obtain ⟨v, mb, hi, -, -⟩ := h.ix
  exact (get_any hi k).mono fun _ _ ⟨he, hb⟩ => ⟨he, own, h.new (Upd.of_below hb), h.didNew (Upd.of_below hb)⟩
theorem ca_put (h : CaAt own w c n p a) (k s : Int) (d : Bool) (hN : a.iN < maxLen) :
    Calls Tryz.prog 203 #[ptr p.ix, .int .i64 k, placeV s d] w (CaOut own w c n p { a with iN := a.iN + 1, ps := putL a.ps n.sl k s d } (.tuple #[placeV (putV a.ps n.sl k s).1 (putV a.ps n.sl k s).2, .int .i64 (putC a.ps n.sl k s)])) := by
  obtain ⟨v, mb, hi, hb, hs⟩ := h.open5
  exact (put_any hi k s d hN).mono fun _ _ ⟨he, hi', hu⟩ =>
    have hu' := hu.mono (fun j _ hj => hs j hj)
    ⟨he, _, h.turn5 hu' ⟨v, mb, hi', hb, hs⟩ (putL_ln _ _ _ _ _), h.did5 hu'⟩
theorem ca_drop (h : CaAt own w c n p a) (k : Int) :
    Calls Tryz.prog 240 #[ptr p.ix, .int .i64 k] w (CaOut own w c n p { a with ps := dropL a.ps k } (.tuple #[placeV (getV a.ps k).1 (getV a.ps k).2, .int .i64 (getC a.ps k)])) := by
  obtain ⟨v, mb, hi, hb, hs⟩ := h.open5
  exact (drop_any hi k).mono fun _ _ ⟨he, hi', hu⟩ =>
    have hu' := hu.mono (fun j _ hj => hs j hj)
    ⟨he, _, h.turn5 hu' ⟨v, mb, hi', hb, hs⟩ (dropL_ln _ _), h.did5 hu'⟩
theorem ca_clean (h : CaAt own w c n p a) (k : Int) :
    Calls Tryz.prog 241 #[ptr p.ix, .int .i64 k] w (CaOut own w c n p { a with ps := cleanL a.ps k } (.int .i64 (getC a.ps k))) := by
  obtain ⟨v, mb, hi, hb, hs⟩ := h.open5
  exact (clean_any hi k).mono fun _ _ ⟨he, hi', hu⟩ =>
    have hu' := hu.mono (fun j _ hj => hs j hj)
    ⟨he, _, h.turn5 hu' ⟨v, mb, hi', hb, hs⟩ (cleanL_ln _ _), h.did5 hu'⟩
theorem ca_turn (h : CaAt own w c n p a) (s t : Int) :
    Calls Tryz.prog 176 #[ptr p.ss, .int .i64 s, .int .i64 t] w (CaOut own w c n p { a with st := turnList a.st s t } (.int .i64 (turnCode a.st s t))) := by
  obtain ⟨v, hi, hb, hs⟩ := h.open6
  exact (turn_any hi h.tur s t).mono fun _ _ ⟨he, hi', hu⟩ =>
    have hu' := hu.mono (fun j _ hj => hs j hj)
    ⟨he, _, h.turn6 hu' ⟨v, hi', hb, hs⟩ (turnList_ln _ _ _), h.did6 hu'⟩
theorem ca_kadd (h : CaAt own w c n p a) (k : Int) (hr : InR k) (hN : a.kN < maxLen) :
    Calls Tryz.prog 205 #[ptr p.ck, .int .i64 k] w (CaOut own w c n p { a with kN := a.kN + 1, K := addK n.sl a.K k, A := addA n.sl a.K a.A a.H k, H := addG n.sl a.K a.H k } (.int .i64 (addC n.sl a.K k))) :=
  (kadd_any h.open8 (fun _ h => .inr h) k hr hN).mono fun _ _ ⟨he, hc, hu⟩ => ⟨he, _, h.turn8 hu hc, h.did8 hu⟩
theorem ca_kdrop (h : CaAt own w c n p a) (k : Int) :
    Calls Tryz.prog 298 #[ptr p.ck, .int .i64 k] w (CaOut own w c n p { a with K := a.K.erase k, A := dropA a.K a.A k } (.int .i64 (touchC a.K k))) :=
  (kdrop_any h.open8 k).mono fun _ _ ⟨he, hc, hu⟩ => ⟨he, _, h.turn8 hu hc, h.did8 hu⟩
theorem ca_ktouch (h : CaAt own w c n p a) (k : Int) (hN : a.kN < maxLen) :
    Calls Tryz.prog 325 #[ptr p.ck, .int .i64 k] w (CaOut own w c n p { a with kN := a.kN + 1, A := agA a.A a.K k } (.int .i64 (touchC a.K k))) :=
  (ktouch_ck h.open8 k hN).mono fun _ _ ⟨he, hc, hu⟩ => ⟨he, _, h.turn8 hu hc, h.did8 hu⟩
theorem ca_sums (h : CaAt own w c n p a) {N : Nat} {f : Int → Option Nat} (hm : MapAt w' p.sm N f) (hu : Upd (fun j => j = p.sm) w w') : ∃ own', CaAt own' w' c n p { a with mN := N, sums := f } ∧ Did own own' w w' := by
  have hu' : Upd (fun j => own j = 9 ∨ w.heap.size ≤ j) w w' := hu.mono (fun j _ e => .inl (e ▸ h.sm.2))
  exact ⟨_, h.turn9 hu' ⟨hm, .inl h.sm.2⟩, h.did9 hu'⟩
theorem ca_store (h : CaAt own w c n p a) {x : Int} (h1 : -9223372036854775808 ≤ x) (h2 : x < 9223372036854775808) (y : Nat) (hy : y < 9223372036854775808) (hn : a.mN < maxLen) :
    ∃ w' own', (Instr.mapUpdate 116 (.map (some p.sm)) (.int .i64 x) (.int .i64 (y : Int))).run Tryz.prog w = .ok () w' ∧ CaAt own' w' c n p { a with mN := a.mN + 1, sums := upd1 a.sums x (some y) } ∧ Did own own' w w' := by
  obtain ⟨w', hr, hm, hu, -⟩ := h.sm.1.store h1 h2 y hy hn
  obtain ⟨own', hc, hd⟩ := ca_sums h hm hu
  exact ⟨w', own', hr, hc, hd⟩
theorem ca_del (h : CaAt own w c n p a) {x : Int} (h1 : -9223372036854775808 ≤ x) (h2 : x < 9223372036854775808) (ty : TypeId) :
    ∃ w' own', (Builtin.delete_ #[116, 3] ty #[.map (some p.sm), .int .i64 x]).run Tryz.prog w = .ok (.tuple #[]) w' ∧ CaAt own' w' c n p { a with sums := upd1 a.sums x none } ∧ Did own own' w w' := by
  obtain ⟨w', hr, hm, hu, -⟩ := h.sm.1.drop h1 h2 ty
  obtain ⟨own', hc, hd⟩ := ca_sums h hm hu
  exact ⟨w', own', hr, hc, hd⟩
end
def cleanB (ps : List (Int × Bool)) (k : Int) : Bool := getC ps k == 0 && !(getV ps k).2
set_option maxRecDepth 100000 in
theorem ca_isclean {own : Nat → Nat} {w : World} {c : Nat} {n : CaN} {p : CaP} {a : CaS} (h : CaAt own w c n p a) (k : Int) :
    Calls Tryz.prog 166 #[ptr c, .int .i64 k] w fun e w' => e = .returned (.bool (cleanB a.ps k)) ∧ Below w.heap.size w w' := by
  obtain ⟨v, mb, hi, -, -⟩ := h.ix
  obtain ⟨-, -, -, -, d4, -, -, -, -⟩ := h.cells
  have HG := Lib.hid (get_any hi k)
  clear hi h
  unfold cleanB
  generalize getV a.ps k = pv at *
  generalize getC a.ps k = cd at *
  obtain ⟨s, b⟩ := pv
  go_enter Tryz.func166, Tryz.ntmps166
  go_wp2_with fail
  refine HG.out.mono ?_
  rintro e w1 ⟨rfl, hb⟩
  have HB := Lib.hid hb
  clear hb
  by_cases hc : cd = 0
  · subst hc
    go_wp2
    go_ret
    exact ⟨by simp, HB.out.alloc HB.out.size _⟩
  · have q0 : (cd == 0) = false := by simpa using hc
    go_wp2
    go_ret
    exact ⟨by simp [q0], HB.out.alloc HB.out.size _⟩
end Go.Proofs.YtfhfbpmlnjdfoaaGreatDoor
namespace Go.Proofs.YtfhfbpmlnjdfoaaGreatDoor.EvG
open Go Go.RowKit Go.Proofs.YtfhfbpmlnjdfoaaGreatDoor
abbrev mayV (xv : Value) : Value := .func (.func 166) #[xv] #[]
def MayIs (xv : Value) (fm : Int → Bool) (w0 : World) : Prop := ∀ (W : World) (k : Int), InR k → Upd (fun _ => False) w0 W → Calls Tryz.prog 166 #[xv, .int .i64 k] W fun e w' => e = .returned (.bool (fm k)) ∧ Below W.heap.size W w'
set_option maxRecDepth 100000 in
theorem goes_any {xv : Value} {fm : Int → Bool} {w0 : World} (hmay : MayIs xv fm w0) (k : Int) (hk : InR k) (w : World) (hw : Upd (fun _ => False) w0 w) (g : Nat) (hg : w.cell? ⟨g, 0, none⟩ = some (mayV xv)) :
    Calls Tryz.prog 233 #[.int .i64 k, .pointer (some ⟨g, 0, none⟩)] w fun e w' => e = .returned (.bool (fm k)) ∧ Below w.heap.size w w' := by
  have hmf : ∀ (fn : Fn) (first cap : Array Value) (w : World), (Instr.makeFunc fn first cap).run Tryz.prog w = .ok (.func fn first cap) w := fun _ _ _ _ => rfl
  have hlt := (addr_of_cell hg).2
  have hg1 := (((Upd.refl (fun _ => False) w).alloc (.cells #[.bool false] 4)).cellAt hlt (fun h => h)).trans hg
  clear hg
  go_enter_defers Tryz.func233, Tryz.ntmps233
  go_wp2_with fail
  refine (hmay _ k hk (hw.alloc _)).mono ?_
  rintro e w1 ⟨rfl, hb1⟩
  have hs1 := hb1.size
  simp at hs1
  have blk := (hb1.block w.heap.size (by simp)).trans (heap_alloc_last w (.cells #[.bool false] 4) rfl)
  have C2 := Lib.hid (cell_of_block (heap_setCell_same blk 0 (.bool (fm k))) 0)
  have c1 := (hb1.cell (p := ⟨w.heap.size, 0, none⟩) (by simp)).trans (cell_of_block (heap_alloc_last w (.cells #[.bool false] 4) rfl) 0)
  have f1 := (hb1.frozen (p := ⟨w.heap.size, 0, none⟩) (by simp)).trans (frozen_of_block (heap_alloc_last w (.cells #[.bool false] 4) rfl) 0)
  simp at c1
  have HB : Hid (Below w.heap.size w w1) := below_upd ((Below.refl _ _).alloc (Nat.le_refl _) _) (Upd.of_below (S := fun _ => False) hb1) (Nat.le_refl _) (fun _ h => h.elim)
  clear hb1 blk
  go_wp2
  refine leaves_cons (f := 234) (args := #[.pointer (some ⟨w.heap.size, 0, none⟩)]) (by simp) (by simp [go_sem]) ?_
  refine (evict_idle _ _).mono ?_
  rintro e u' w'' ⟨rfl, rfl, rfl⟩
  simp [Leaves, settle, results, Tryz.results233, go_sem]
  have c2 := C2.out
  simp at c2
  rw [c2]
  exact ⟨_, rfl, rfl, HB.out.setCell (p := ⟨w.heap.size, 0, none⟩) (Nat.le_refl _) _⟩
end Go.Proofs.YtfhfbpmlnjdfoaaGreatDoor.EvG
