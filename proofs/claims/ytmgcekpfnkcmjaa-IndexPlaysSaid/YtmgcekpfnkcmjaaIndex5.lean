/- The index: Copy. -/
import Derived.Test.YtmgcekpfnkcmjaaIndex4
import Derived.Shelf.SlMaps.Clone
namespace Go.Proofs.Ytmgcekpfnkcmjaa
open Go Go.RowKit

theorem infoPl : (Try.prog.info? 36).map (fun i => (i.zero, i.size, i.bytes)) = some (some (.agg #[.int .i64 0, .bool false]), 2, 16) := by kernel_rfl

set_option maxRecDepth 100000 in
/-- 'slices.Clone' of places. -/
theorem cloneP_any {w : World} {v : Value} {ps : List (Int × Bool)} (h : Rd w 2 v ps.length (plC ps)) (hle : ps.length ≤ 4096) (hpos : 0 < ps.length) :
    Calls Try.prog 53 #[v] w fun e w' => ∃ v', e = .returned v' ∧ Sl w' 36 2 v' ps.length (plC ps) ∧ From w.heap.size v' ∧ Below w.heap.size w w' := by
  obtain ⟨i0, hi, hz0, hz1, hz2⟩ := info_parts infoPl
  have H := Lib.hid h
  obtain ⟨hl, hm, ao, c, rfl, h0, _⟩ := h
  have q34 := fun (w : World) (a : Option Addr) (n c : Nat) => Lib.run_eql_slice_nil (P := Try.prog) w 46 36 a n c 0 0 Try.underlying46
  cases ao with
  | none =>
    have hn := h0 rfl
    omega
  | some a =>
    clear h0 hl
    have hs0 : Sl (w.alloc (.cells #[] 36)) 36 2 (.slice (some ⟨w.heap.size, 0, none⟩) 0 0) 0 [] :=
      ⟨by simp, .inr ⟨w.heap.size, 0, 0, #[], rfl, heap_alloc_last _ _ rfl, by simp, by simp [maxLen], by simp, by simp⟩⟩
    have HR : Hid (Rd (w.alloc (.cells #[] 36)) 2 (.slice (some a) ps.length c) ps.length (plC ps)) := H.out.keep ((Upd.refl (fun _ => False) _).alloc _) (fun _ _ h => h)
    have hone : ∀ u ∈ plC ps, u.oneCell' = true := by intro u hu; simp only [plC, List.mem_flatMap] at hu; obtain ⟨p, _, hp⟩ := hu; simp at hp; rcases hp with rfl | rfl <;> simp [Value.oneCell']
    go_enter Try.func53, Try.ntmps53
    go_wp2_with (at_builtin; refine wpList_append_sl rfl _ _ 46 rfl i0 (.agg #[.int .i64 0, .bool false]) 16 Try.underlying46 hi hz0 hz1 hz2 rfl (by decide) rfl hs0 _ ps.length (plC ps) rfl HR.out hone (by unfold maxLen; omega) (by omega) ?_)
    intro v' w2 hs2 hu2 hb2
    go_wp2
    go_ret
    refine ⟨_, rfl, by simpa using hs2, ?_, ?_⟩
    · exact hb2.ge (by simp) (by intro g hg; simp [Value.ownBlock] at hg; omega)
    · refine below_upd ((Below.refl _ _).alloc (Nat.le_refl _) _) hu2 (Nat.le_refl _) (by intro k hk; simp [ownS, Value.ownBlock] at hk; omega)

set_option maxRecDepth 100000 in
/-- 'maps.Clone'. -/
theorem mclone_any {w : World} {mb N : Nat} {f : Int → Option Nat} (h : MapAt w mb N f) :
    Calls Try.prog 54 #[.map (some mb)] w fun e w' => e = .returned (.map (some w.heap.size)) ∧ MapAt w' w.heap.size N f ∧ Below w.heap.size w w' := by
  obtain ⟨D, ⟨es, clock, hb, hF, hs, hD⟩, hf⟩ := h
  have hq := fun w => run_eql_map_nil_sl (P := Try.prog) w 93 _ _ (some mb) Try.underlying93
  have hend : MapAt (w.alloc (.map es clock)) w.heap.size N f := ⟨D, ⟨es, clock, (MapKept.heap_alloc w _).1, hF, hs, hD⟩, hf⟩
  have HE := Lib.hid hend
  clear hend hf hD hs hF
  go_enter Try.func54, Try.ntmps54
  go_wp2
  rw [run_callFunc_extern Try.func86 (by kernel_rfl) (by kernel_rfl) (by kernel_rfl) (e := Extern.MapsClone.clone) (by kernel_rfl), run_maps_clone_sl w 93 hb]
  simp only [Result.andThen]
  rw [Oper.upon_value]
  go_wp2
  rw [run_typeAssert_map_sl _ 93 _ _ _ _ Try.underlying93]
  simp only [Result.andThen]
  rw [Oper.upon_value]
  go_wp2
  go_ret
  exact ⟨rfl, HE.out, (Below.refl _ _).alloc (Nat.le_refl _) _⟩

theorem icopy_nil (w : World) : Calls Try.prog 17 #[.pointer none] w fun e w' => e = .returned (.pointer none) ∧ w' = w := by
  go_enter Try.func17, Try.ntmps17
  go_wp2
  go_ret
  exact ⟨rfl, rfl⟩

set_option maxRecDepth 100000 in
set_option maxHeartbeats 1000000 in
theorem icopy_any {w : World} {b mb N : Nat} {v : Value} {ps : List (Int × Bool)} {slots : Nat} (h : IndexAt w b v mb N ps slots) (hpos : 0 < ps.length) :
    Calls Try.prog 17 #[.pointer (some ⟨b, 0, none⟩)] w fun e w' => ∃ b' v' mb', e = .returned (.pointer (some ⟨b', 0, none⟩)) ∧
      IndexAt w' b' v' mb' N ps slots ∧ w.heap.size ≤ b' ∧ (∀ j, ixS v' mb' j → w.heap.size ≤ j) ∧ Below w.heap.size w w' := by
  have H := Lib.hid h
  have hle := h.le
  have hbl := h.blt
  have g0 := cell_of_block h.str 0
  have g1 := cell_of_block h.str 1
  have g2 := cell_of_block h.str 2
  simp at g0 g1 g2
  obtain ⟨ao, c, rfl⟩ := h.sl.rd.nil_iff
  have HR : Hid (Rd w.drew 2 (.slice ao ps.length c) ps.length (plC ps)) := h.sl.rd.keep ((Upd.refl (fun _ => False) w).drew) (fun _ _ h => h)
  have HM : Hid (MapAt w.drew mb N (atOf ps)) := h.map
  clear h
  go_enter Try.func17, Try.ntmps17
  go_wp2
  go_region_held3 (fun W => W.cell? ⟨b, 0, none⟩ = some (.slice ao ps.length c) ∧ W.cell? ⟨b, 1, none⟩ = some (.map (some mb)) ∧ W.cell? ⟨b, 2, none⟩ = some (.int .i64 slots)) (go_keep)
    (first
    | ((go_at_call 53; refine (cloneP_any HR.out hle hpos).mono ?_; rintro e w2 ⟨v', rfl, hs2, hf2, hb2⟩; obtain ⟨ao', c', rfl⟩ := hs2.rd.nil_iff; have k0 := (hb2.cell (p := ⟨b, 0, none⟩) hbl).trans g0; have k1 := (hb2.cell (p := ⟨b, 1, none⟩) hbl).trans g1; have k2 := (hb2.cell (p := ⟨b, 2, none⟩) hbl).trans g2))
    | ((go_at_call 54; refine (mclone_any (MapAt.keep HM.out (Upd.of_below (S := fun _ => False) hb2) (fun h => h))).mono ?_; rintro e w3 ⟨rfl, hm3, hb3⟩; have m0 := (hb3.cell (p := ⟨b, 0, none⟩) (Nat.lt_of_lt_of_le hbl hb2.size)).trans k0; have m1 := (hb3.cell (p := ⟨b, 1, none⟩) (Nat.lt_of_lt_of_le hbl hb2.size)).trans k1; have m2 := (hb3.cell (p := ⟨b, 2, none⟩) (Nat.lt_of_lt_of_le hbl hb2.size)).trans k2)))
  go_wp2
  go_ret
  have hz2 : w.heap.size ≤ w2.heap.size := hb2.size
  have hz3 := hb3.size
  have hf2' : From w.heap.size (.slice ao' ps.length c') := hf2
  have hs3 : Sl w3 36 2 (.slice ao' ps.length c') ps.length (plC ps) := hs2.keep (Upd.of_below (S := fun _ => False) hb3) (fun _ _ h => h)
  have hU := (Upd.refl (fun _ => False) w3).alloc (.cells #[.slice ao' ps.length c', .map (some w2.heap.size), .int .i64 slots] 95)
  have hm3lt := hm3.lt
  have hlt2 : ∀ g, (Value.slice ao' ps.length c').ownBlock = some g → g < w2.heap.size := fun g hg => hs2.lt hg
  refine ⟨w3.heap.size, _, w2.heap.size, rfl, { str := heap_alloc_last _ _ rfl, sl := hs3.keep hU (fun _ _ h => h), map := hm3.keep hU (fun h => h), good := H.out.good, ne := fun e => by have := hlt2 _ e; omega, nm := by omega, nv := fun e => by have := hlt2 _ e; omega, le := hle, sl1 := H.out.sl1 }, by omega, ?_, ?_⟩
  · rintro j (hj | rfl)
    · exact hf2' j hj
    · exact hz2
  · have hB2 : Below w.heap.size w w2 := ⟨hb2.os, hb2.tape, hb2.output, hb2.size, hb2.block⟩
    exact (hB2.trans (hb3.mono hz2)).alloc (by omega) _
end Go.Proofs.Ytmgcekpfnkcmjaa
