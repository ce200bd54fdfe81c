/- Slots: New, Alloc, Copy; the document's New, Alloc, Turn, All. The index: Put, Drop, Clean, At. A new ledger. -/
import Derived.Test.YtnadilfobmgebaaGreatDoorG08
import Derived.WalkSpells
import Derived.Test.YtnadilfobmgebaaGreatDoorG09
import Derived.Test.YtnadilfobmgebaaGreatDoorG06
namespace Go.Proofs.YtnadilfobmgebaaGreatDoor
open Go Go.RowKit
theorem madeZeros (n : Nat) : madeCells #[Value.int .i64 0] (n * 1) = (ints (List.replicate n 0)).toArray := by
  apply Array.ext
  · simp [size_madeCells]
  · intro i h1 h2
    have : i % 1 = 0 := Nat.mod_one i
    simp [madeCells, ints, this]
theorem infoI : (Tryz.prog.info? 3).map (fun i => (i.zero, i.size, i.bytes)) = some (some (.int .i64 0), 1, 8) := by kernel_rfl
abbrev TS : TypeId := 285
theorem snew_ok (n : Nat) (w : World) (h1 : 1 ≤ n) (h2 : n ≤ 1024) :
    Calls Tryz.prog 152 #[.int .i64 n] w fun e w' => e = .returned (.tuple #[ptrAt (w.heap.size + 1), .int .i64 0]) ∧
      SlotsAt TS w' (w.heap.size + 1) (.slice (some ⟨w.heap.size, 0, none⟩) n n) (List.replicate n 0) ∧ Below w.heap.size w w' ∧ w'.heap.size = w.heap.size + 2 := by
  obtain ⟨i0, hi, hz0, hz1, hz2⟩ := info_parts infoI
  have hmk : ∀ w : World, (Instr.makeSlice 100 (.int .i64 n) (.int .i64 n)).run Tryz.prog w = .ok (.slice (some ⟨w.heap.size, 0, none⟩) n n) (w.alloc (.cells (ints (List.replicate n 0)).toArray 3)) := by
    intro w
    have := run_make (P := Tryz.prog) w 100 3 i0 (.int .i64 0) Tryz.underlying100 hi hz0 .i64 .i64 n n (by omega) (by omega) (by rw [hz2]; omega) (by omega)
    rw [this]
    simp only [Int.toNat_natCast, hz1, Value.cells]
    rw [madeZeros]
  have h1' : ¬ (n : Int) < 1 := by omega
  have h2' : ¬ 1024 < (n : Int) := by omega
  clear hi hz0 hz1 hz2
  go_enter Tryz.func152, Tryz.ntmps152
  go_wp2
  go_ret2
  have ha : (w.alloc (.cells (ints (List.replicate n 0)).toArray 3)).heap[w.heap.size]? = some (.cells (ints (List.replicate n 0)).toArray 3) := heap_alloc_last w _ rfl
  refine ⟨rfl, ⟨heap_alloc_last _ _ (by simp), ?_, by simp [Value.ownBlock], by simpa using h2⟩, ((Below.refl _ _).alloc (Nat.le_refl _) _).alloc (by simp) _, by simp⟩
  refine ⟨by simp, .inr ⟨w.heap.size, 0, n, (ints (List.replicate n 0)).toArray, by simp, ?_, by simp, by unfold maxLen; omega, by simp, ?_⟩⟩
  · rw [Below.heap_alloc _ _ _ (by simp)]; exact ha
  · intro j u hj; simpa using hj
section
variable {w : World} {b : Nat} {v : Value} {l : List Int}
theorem clone_any {w : World} {v : Value} {l : List Int} (h : Rd w 1 v l.length (ints l)) (hle : l.length ≤ 4096) :
    Calls Tryz.prog 70 #[v] w fun e w' => ∃ v', e = .returned v' ∧ Sl w' 3 1 v' l.length (ints l) ∧ From w.heap.size v' ∧ Below w.heap.size w w' := by
  obtain ⟨i0, hi, hz0, hz1, hz2⟩ := info_parts infoI
  have H := Lib.hid h
  obtain ⟨hl, hm, ao, c, rfl, h0, _⟩ := h
  have q34 := fun (w : World) (a : Option Addr) (n c : Nat) => Lib.run_eql_slice_nil (P := Tryz.prog) w 100 3 a n c 0 0 Tryz.underlying100
  cases ao with
  | none =>
    have hn := h0 rfl
    obtain rfl : l = [] := List.eq_nil_of_length_eq_zero hn
    clear h0 hl
    go_enter Tryz.func70, Tryz.ntmps70
    go_wp2
    go_ret
    exact ⟨_, rfl, by simpa using Sl.nil _ _ _, From.nil _ _ _, Below.refl _ _⟩
  | some a =>
    clear h0 hl
    have hs0 : Sl (w.alloc (.cells #[] 3)) 3 1 (.slice (some ⟨w.heap.size, 0, none⟩) 0 0) 0 [] :=
      ⟨by simp, .inr ⟨w.heap.size, 0, 0, #[], rfl, heap_alloc_last _ _ rfl, by simp, by simp [maxLen], by simp, by simp⟩⟩
    have HR : Hid (Rd (w.alloc (.cells #[] 3)) 1 (.slice (some a) l.length c) l.length (ints l)) := H.out.keep ((Upd.refl (fun _ => False) _).alloc _) (fun _ _ h => h)
    go_enter Tryz.func70, Tryz.ntmps70
    go_wp2_with (at_builtin; refine wpList_append_sl rfl _ _ 100 rfl i0 (.int .i64 0) 8 Tryz.underlying100 hi hz0 hz1 hz2 rfl (by decide) rfl hs0 _ l.length (ints l) rfl HR.out (by simp [ints, Value.oneCell']) (by unfold maxLen; omega) (by omega) ?_)
    intro v' w2 hs2 hu2 hb2
    go_wp2
    go_ret
    refine ⟨_, rfl, by simpa using hs2, ?_, ?_⟩
    · exact hb2.ge (by simp) (by intro g hg; simp [Value.ownBlock] at hg; omega)
    · refine below_upd ((Below.refl _ _).alloc (Nat.le_refl _) _) hu2 (Nat.le_refl _) (by intro k hk; simp [ownS, Value.ownBlock] at hk; omega)
end
theorem Upd.undrew {S : Nat → Prop} {w w' : World} (h : Upd S w.drew w') : Upd S w w' := ⟨h.os, h.tape, h.output, h.size, h.block⟩
theorem Sl.setAt {w : World} {e : TypeId} {m g off n cap : Nat} {xs : List Value} (h : Sl w e m (.slice (some ⟨g, off, none⟩) n cap) n xs) (i : Nat) (hi : i < n * m) (u : Value) :
    Sl (w.setCell ⟨g, off + i, none⟩ u) e m (.slice (some ⟨g, off, none⟩) n cap) n (xs.set i u) := by
  obtain ⟨hl, ⟨h1, _⟩ | ⟨g', off', cap', cur, h1, hg, hn, hm, hs, hc⟩⟩ := h
  · cases h1
  · cases h1
    have hle : n * m ≤ cap * m := Nat.mul_le_mul_right m hn
    refine ⟨by simpa using hl, .inr ⟨g, off, cap, _, rfl, heap_setCell_same hg _ _, hn, hm, by simpa using hs, fun j x hj => ?_⟩⟩
    by_cases hji : i = j
    · subst hji
      rw [List.getElem?_set_self (by omega)] at hj
      cases hj
      rw [Array.getElem?_setIfInBounds_self, if_pos (by omega)]
    · rw [List.getElem?_set_ne hji] at hj
      rw [Array.getElem?_setIfInBounds_ne (by omega)]
      exact hc j x hj
theorem madeMaps (n : Nat) : madeCells #[Value.map none] (n * 1) = Array.replicate n (Value.map none) := by
  apply Array.ext
  · simp [size_madeCells]
  · intro i h1 h2
    have : i % 1 = 0 := Nat.mod_one i
    simp [madeCells, this]
theorem infoSet : (Tryz.prog.info? 291).map (fun i => (i.zero, i.size, i.bytes)) = some (some (.map none), 1, 8) := by kernel_rfl
structure LgTo (W w : World) (g n k : Nat) (M : List (Nat × (Int → Bool))) : Prop where
  sl : Sl w 291 1 (.slice (some ⟨g, 0, none⟩) n n) n (LgC M ++ List.replicate (n - k) (.map none))
  len : M.length = k
  sets : ∀ p ∈ M, SetAt w p.1 4097 p.2 ∧ p.2 = fun _ => false
  nd : (M.map (·.1)).Nodup
  lo : ∀ p ∈ M, W.heap.size + 2 ≤ p.1
set_option maxRecDepth 100000 in
theorem lnew_ok {S : Nat → Prop} (n bl : Nat) (w : World) (hn : ∀ j, w.heap.size ≤ j → S j) (h1 : 1 ≤ n) (h2 : n ≤ 1024) (h3 : 1 ≤ bl) (h4 : bl ≤ 4096) :
    Calls Tryz.prog 153 #[.int .i64 (n : Int), .int .i64 (bl : Int)] w fun e w' => ∃ b, e = .returned (.tuple #[.pointer (some ⟨b, 0, none⟩), .int .i64 0]) ∧
      Lg S w' b bl (List.replicate n (fun _ => false)) ∧ Below w.heap.size w w' ∧ w.heap.size ≤ b := by
  obtain ⟨i0, hi, hz0, hz1, hz2⟩ := info_parts infoSet
  have hmm := @run_makeMap Tryz.prog
  have hmk : ∀ w : World, (Instr.makeSlice 288 (.int .i64 n) (.int .i64 n)).run Tryz.prog w = .ok (.slice (some ⟨w.heap.size, 0, none⟩) n n) (w.alloc (.cells (Array.replicate n (Value.map none)) 291)) := by
    intro w
    have := run_make (P := Tryz.prog) w 288 291 i0 (.map none) Tryz.underlying288 hi hz0 .i64 .i64 n n (by omega) (by omega) (by rw [hz2]; omega) (by omega)
    rw [this]
    simp only [Int.toNat_natCast, hz1, Value.cells]
    rw [madeMaps]
  have q1 : decide ((n : Int) < 1) = false := by simp; omega
  have q2 : decide (1024 < (n : Int)) = false := by simp; omega
  have q3 : decide ((bl : Int) < 1) = false := by simp; omega
  have q4 : decide (4096 < (bl : Int)) = false := by simp; omega
  clear hi hz0 hz1 hz2
  go_enter Tryz.func153, Tryz.ntmps153
  go_wp2
  have ha : ((w.alloc (.cells (Array.replicate n (Value.map none)) 291)).alloc (.cells #[.int .i64 (bl : Int), .slice (some ⟨w.heap.size, 0, none⟩) n n] 290)).heap[w.heap.size]? = some (.cells (Array.replicate n (Value.map none)) 291) := by
    rw [Below.heap_alloc _ _ _ (by simp)]; exact heap_alloc_last w _ rfl
  have hb := heap_alloc_last (w.alloc (.cells (Array.replicate n (Value.map none)) 291)) (.cells #[.int .i64 (bl : Int), .slice (some ⟨w.heap.size, 0, none⟩) n n] 290) (n := w.heap.size + 1) (by simp)
  have hB := ((Below.refl w.heap.size w).alloc (Nat.le_refl _) (.cells (Array.replicate n (Value.map none)) 291)).alloc (by simp) (.cells #[.int .i64 (bl : Int), .slice (some ⟨w.heap.size, 0, none⟩) n n] 290)
  have hsz : ((w.alloc (.cells (Array.replicate n (Value.map none)) 291)).alloc (.cells #[.int .i64 (bl : Int), .slice (some ⟨w.heap.size, 0, none⟩) n n] 290)).heap.size = w.heap.size + 2 := by simp
  have hsl : Sl ((w.alloc (.cells (Array.replicate n (Value.map none)) 291)).alloc (.cells #[.int .i64 (bl : Int), .slice (some ⟨w.heap.size, 0, none⟩) n n] 290)) 291 1 (.slice (some ⟨w.heap.size, 0, none⟩) n n) n (List.replicate n (Value.map none)) :=
    ⟨by simp, .inr ⟨w.heap.size, 0, n, _, rfl, ha, Nat.le_refl _, by unfold maxLen; omega, by simp, fun j u hj => by rw [Nat.zero_add, ← List.toArray_replicate, List.getElem?_toArray]; exact hj⟩⟩
  generalize (w.alloc (.cells (Array.replicate n (Value.map none)) 291)).alloc (.cells #[.int .i64 (bl : Int), .slice (some ⟨w.heap.size, 0, none⟩) n n] 290) = w2 at *
  have HB := Lib.hid (And.intro hb (And.intro hB (And.intro hsz (And.intro hsl hn))))
  clear ha hb hB hsz hsl hn hmk
  go_loopw [32] (fun s32 wr => ∃ k : Nat, k ≤ n ∧ s32 = .int .i64 k ∧ (∃ M, LgTo w wr w.heap.size n k M) ∧ Upd (fun j => j = w.heap.size) w2 wr) (fun s32 _ => n - (intOf s32).toNat)
  case atStart => exact ⟨0, by omega, rfl, ⟨[], by simpa using HB.out.2.2.2.1, rfl, by simp, by simp, by simp⟩, Upd.refl _ _⟩
  case round =>
    obtain ⟨k, hk, rfl, ⟨M, hM⟩, hu⟩ := hrel
    have hstr := (hu.block _ (lt_of_block HB.out.1) (by omega)).trans HB.out.1
    have c1 := cell_of_block hstr 1
    simp at c1
    have hge := hu.size
    have hs2 := HB.out.2.2.1
    by_cases hlt : k < n
    · have b1 : (0 : Int) ≤ (k : Int) := by omega
      have b2 : (k : Int) < (n : Int) := by omega
      obtain ⟨g', off', cap', cur, he, hg, hoc, hcc⟩ := hM.sl.at (by omega)
      cases he
      have HM := Lib.hid (And.intro hM (And.intro hu (And.intro hstr hk)))
      have hc : (wr.alloc (.map #[] 0)).cell? ⟨w.heap.size, k, none⟩ = some (.map none) := by
        rw [cell_of_block ((Below.heap_alloc _ _ _ (lt_of_block hg)).trans hg)]
        have hl : (LgC M).length = k := by simp [LgC, hM.len]
        have := hcc k (.map none) (by rw [List.getElem?_append_right (by omega), hl, Nat.sub_self, List.getElem?_replicate, if_pos (by omega)])
        simpa using this
      have hf : (wr.alloc (.map #[] 0)).frozen? ⟨w.heap.size, k, none⟩ = false := frozen_of_block ((Below.heap_alloc _ _ _ (lt_of_block hg)).trans hg) k
      clear hM hu hstr hg hoc hcc hk
      have HX := Lib.hid (And.intro hs2 hge)
      clear hs2 hge
      go_wp2
      go_roundw
      case rel =>
        obtain ⟨hM, hu, hstr, hk⟩ := HM.out
        obtain ⟨hs2, hge⟩ := HX.out
        have hal : Upd (fun _ => False) wr (wr.alloc (.map #[] 0)) := (Upd.refl _ wr).alloc _
        have hsc : Upd (fun j => j = w.heap.size) (wr.alloc (.map #[] 0)) ((wr.alloc (.map #[] 0)).setCell ⟨w.heap.size, k, none⟩ (.map (some wr.heap.size))) := upd_setCell _ _ _ _
        refine ⟨k + 1, by omega, by go_num, ⟨M ++ [(wr.heap.size, fun _ => false)], ?_, by simp [hM.len], ?_, ?_, ?_⟩, (hu.trans (hal.mono (fun _ _ h => h.elim))).trans hsc⟩
        · have h3 := (hM.sl.keep hal (fun _ _ h => h)).setAt k (by omega) (.map (some wr.heap.size))
          rw [Nat.zero_add] at h3
          have e : (LgC M ++ List.replicate (n - k) (Value.map none)).set k (.map (some wr.heap.size)) = LgC (M ++ [(wr.heap.size, fun _ => false)]) ++ List.replicate (n - (k + 1)) (.map none) := by
            have : n - k = (n - (k + 1)) + 1 := by omega
            rw [this, List.replicate_succ, List.set_append_right _ _ (by simp [hM.len])]
            simp [hM.len, LgC]
          rw [e] at h3
          exact h3
        · intro p hp
          rcases List.mem_append.1 hp with hp | hp
          · refine ⟨((hM.sets p hp).1.keep hal (fun h => h)).keep hsc (fun e => ?_), (hM.sets p hp).2⟩
            have := hM.lo p hp; omega
          · simp at hp; subst hp
            exact ⟨((SetAt.made wr).mono (by omega)).keep hsc (fun e => by have e' : wr.heap.size = w.heap.size := e; omega), rfl⟩
        · rw [List.map_append, List.nodup_append]
          refine ⟨hM.nd, by simp, ?_⟩
          intro x hx y hy e
          simp at hy; subst hy
          obtain ⟨p, hp, rfl⟩ := List.mem_map.1 hx
          have := (hM.sets p hp).1.lt; omega
        · intro p hp
          rcases List.mem_append.1 hp with hp | hp
          · exact hM.lo p hp
          · simp at hp; subst hp; show _ ≤ wr.heap.size; omega
      case measure => simp [intOf]; omega
    · obtain rfl : k = n := by omega
      have HM := Lib.hid (And.intro hM (And.intro hu hstr))
      clear hM hu hstr hk hge hs2
      go_wp2
      go_ret2
      obtain ⟨hM, hu, hstr⟩ := HM.out
      obtain ⟨hb, hB, hsz, -, hn⟩ := HB.out
      have hMM : ∀ p ∈ M, p.1 < wr.heap.size := fun p hp => (hM.sets p hp).1.lt
      refine ⟨w.heap.size + 1, rfl, ⟨.slice (some ⟨w.heap.size, 0, none⟩) k k, M, ⟨hstr, by have := hM.sl; rw [hM.len]; simpa using this, fun p hp => (hM.sets p hp).1, hM.nd, fun p hp => ⟨?_, ?_⟩, by simp [Value.ownBlock], by rw [hM.len]; exact h2, ⟨h3, h4⟩, fun p hp s hs => ?_⟩, ?_, ?_⟩, below_upd hB hu (by omega) (fun j e => by omega), by omega⟩
      · have := hM.lo p hp; omega
      · have := hM.lo p hp; simp [Value.ownBlock]; omega
      · rw [(hM.sets p hp).2] at hs; simp at hs
      · apply List.ext_getElem (by simp [hM.len])
        intro i h1 h2
        simp only [List.getElem_map, List.getElem_replicate]
        exact (hM.sets _ (List.getElem_mem _)).2
      · rintro j (rfl | hj | hj)
        · exact hn _ (by omega)
        · simp [Value.ownBlock] at hj; exact hn _ (by omega)
        · obtain ⟨p, hp, rfl⟩ := List.mem_map.1 hj
          exact hn _ (by have := hM.lo p hp; omega)
end Go.Proofs.YtnadilfobmgebaaGreatDoor
