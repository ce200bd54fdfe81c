/- All: which iterator it gives. -/
import Derived.Test.YtmgcekpfnkcmjaaIndexIt
namespace Go.Proofs.Ytmgcekpfnkcmjaa
open Go Go.RowKit

theorem bundrew {w w' : World} (h : Below w.drew.heap.size w.drew w') : Below w.heap.size w w' := ⟨h.os, h.tape, h.output, h.size, h.block⟩

abbrev spanV (f n : Int) : Value := .agg #[.int .i64 f, .int .i64 n]
/-- The places of a span. -/
def spanL (ps : List (Int × Bool)) (f n : Nat) : List (Int × Bool) := (ps.drop f).take n

theorem plC_drop (ps : List (Int × Bool)) (k : Nat) : plC (ps.drop k) = (plC ps).drop (k * 2) := by
  induction ps generalizing k with
  | nil => simp [plC]
  | cons p ps ih =>
    cases k with
    | zero => rfl
    | succ k =>
      rw [show (k + 1) * 2 = k * 2 + 1 + 1 by omega]
      simpa [plC] using ih k

/-- The places from f on. -/
theorem rd_drop {w : World} {ps : List (Int × Bool)} {g o c : Nat} (h : Sl w 36 2 (.slice (some ⟨g, o, none⟩) ps.length c) ps.length (plC ps)) (f : Nat) (hf : f ≤ ps.length) :
    Rd w 2 (.slice (some ⟨g, o + f * 2, none⟩) (ps.length - f) (c - f)) (ps.drop f).length (plC (ps.drop f)) := by
  obtain ⟨hl, hm, ao, cc, hv, h0, hc⟩ := h.rd
  cases hv
  refine ⟨plC_len _, by rw [List.length_drop]; omega, some ⟨g, o + f * 2, none⟩, c - f, by rw [List.length_drop], (fun h => by cases h), fun b hb j u hj => ?_⟩
  cases hb
  rw [plC_drop, List.getElem?_drop] at hj
  have := hc _ rfl (f * 2 + j) u hj
  have e : (⟨g, o, none⟩ : Addr).add (f * 2 + j) = (⟨g, o + f * 2, none⟩ : Addr).add j := by rw [Addr.add_lit, Addr.add_lit, Nat.add_assoc]
  rw [← e]; exact this

set_option maxRecDepth 100000 in
theorem all_nil (f n : Int) (w : World) : Calls Try.prog 20 #[.pointer none, spanV f n] w fun e w' => e = .returned (.func (.func 55) #[] #[]) ∧ Below w.heap.size w w' := by
  go_enter Try.func20, Try.ntmps20
  go_wp2
  go_quiet (fail)
  go_wp2
  go_ret
  exact ⟨rfl, below_drewN ((Below.refl _ _).alloc (Nat.le_refl _) _) _⟩

set_option maxRecDepth 100000 in
set_option maxHeartbeats 1000000 in
theorem all_out {w : World} {b mb N : Nat} {v : Value} {ps : List (Int × Bool)} {slots : Nat} (h : IndexAt w b v mb N ps slots) (f n : Int) (ho : f < 0 ∨ n < 0 ∨ (ps.length : Int) ≤ f) :
    Calls Try.prog 20 #[.pointer (some ⟨b, 0, none⟩), spanV f n] w fun e w' => e = .returned (.func (.func 55) #[] #[]) ∧ Below w.heap.size w w' := by
  have hu : Upd (fun _ => False) w (w.alloc (.cells #[.int .i64 f, .int .i64 n] 41)) := (Upd.refl _ _).alloc _
  have g0 := (hu.cellAt (o := 0) h.blt (fun h => h)).trans (cell_of_block h.str 0)
  simp at g0
  have hle := h.le
  obtain ⟨ao, c, rfl⟩ := h.sl.rd.nil_iff
  clear h hu
  have ho' : f < 0 ∨ (¬ f < 0 ∧ n < 0) ∨ (¬ f < 0 ∧ ¬ n < 0 ∧ (ps.length : Int) ≤ f) := by omega
  clear ho
  rcases ho' with h1 | ⟨h1, h2⟩ | ⟨h1, h2, h3⟩
  case' inr.inl =>
    have d1 : decide (f < 0) = false := by simpa using h1
    have d2 : decide (n < 0) = true := by simpa using h2
  case' inr.inr =>
    have d1 : decide (f < 0) = false := by simpa using h1
    have d2 : decide (n < 0) = false := by simpa using h2
    have d3 : decide ((ps.length : Int) ≤ f) = true := by simpa using h3
  all_goals
    go_enter Try.func20, Try.ntmps20
    go_wp2
    go_quiet (fail)
    go_wp2
    go_ret
    exact ⟨rfl, below_drewN ((Below.refl _ _).alloc (Nat.le_refl _) _) _⟩

set_option maxRecDepth 100000 in
set_option maxHeartbeats 1000000 in
theorem all_in {w : World} {b mb N : Nat} {v : Value} {ps : List (Int × Bool)} {slots : Nat} (h : IndexAt w b v mb N ps slots) (f n : Nat) (hf : f < ps.length) :
    Calls Try.prog 20 #[.pointer (some ⟨b, 0, none⟩), spanV f n] w fun e w' => ∃ Bs Bp g off cap, e = .returned (.func (.func 56) #[] #[.pointer (some ⟨Bs, 0, none⟩), .pointer (some ⟨Bp, 0, none⟩)]) ∧
      (w.heap.size ≤ Bp ∧ w.heap.size ≤ g ∧ w.heap.size ≤ Bs) ∧ Bs < w'.heap.size ∧ Bp < w'.heap.size ∧ g < w'.heap.size ∧ w'.cell? ⟨Bs, 0, none⟩ = some (.slice (some ⟨g, off, none⟩) (spanL ps f n).length cap) ∧ w'.cell? ⟨Bp, 0, none⟩ = some (.int .i64 f) ∧
      (∀ j (h : j < (spanL ps f n).length), w'.cell? ⟨g, off + j * 2, none⟩ = some (.int .i64 (spanL ps f n)[j].1) ∧ w'.cell? ⟨g, off + j * 2 + 1, none⟩ = some (.bool (spanL ps f n)[j].2)) ∧ Below w.heap.size w w' := by
  have hu : Upd (fun _ => False) w (w.alloc (.cells #[.int .i64 f, .int .i64 n] 41)) := (Upd.refl _ _).alloc _
  have g0 := (hu.cellAt (o := 0) h.blt (fun h => h)).trans (cell_of_block h.str 0)
  simp at g0
  have hle := h.le
  have HI0 := Lib.hid h
  obtain ⟨ao, c, rfl⟩ := h.sl.rd.nil_iff
  have d1 : ¬ (f : Int) < 0 := by omega
  have d2 : ¬ (n : Int) < 0 := by omega
  have d3 : ¬ (ps.length : Int) ≤ f := by omega
  clear h
  go_enter Try.func20, Try.ntmps20
  go_wp2
  go_quiet (fail)
  go_wp2
  clear g0
  generalize hw2 : (w.alloc (.cells #[.int .i64 f, .int .i64 n] 41)).drewN nq = w2
  have hu2 : Upd (fun _ => False) w w2 := by rw [← hw2]; exact hu.drewN nq
  have hsp : w2.heap[w.heap.size]? = some (.cells #[.int .i64 f, .int .i64 n] 41) := by rw [← hw2]; exact heap_alloc_last w _ rfl
  have hz2 : w2.heap.size = w.heap.size + 1 := by rw [← hw2]; simp [World.drewN]
  clear hw2 hu
  have t0 := cell_of_block hsp 0
  have t1 := cell_of_block hsp 1
  simp at t0 t1
  have g0 := (hu2.cellAt (o := 0) HI0.out.blt (fun h => h)).trans (cell_of_block HI0.out.str 0)
  simp at g0
  obtain ⟨gb, go, rfl, hgc1⟩ : ∃ gb go, ao = some (⟨gb, go, none⟩ : Addr) ∧ ps.length ≤ c := by
    obtain ⟨hl, ⟨h1, h2⟩ | ⟨g', off', cap', cur, h1, hg, hn, _⟩⟩ := HI0.out.sl
    · omega
    · cases h1; exact ⟨g', off', rfl, hn⟩
  have hua : Upd (fun _ => False) w2 (w2.alloc (.cells #[.slice none 0 0] 46)).drew := ((Upd.refl _ _).alloc _).drew
  have HR : Hid (Rd (w2.alloc (.cells #[.slice none 0 0] 46)).drew 2 (.slice (some ⟨gb, go + f * 2, none⟩) (ps.length - f) (c - f)) (ps.drop f).length (plC (ps.drop f))) :=
    (rd_drop (HI0.out.sl.keep hu2 (fun _ _ h => h)) f (by omega)).keep hua (fun _ _ h => h)
  have HR2 : Hid (Rd w2.drew 2 (.slice (some ⟨gb, go + f * 2, none⟩) (ps.length - f) (c - f)) (ps.drop f).length (plC (ps.drop f))) :=
    (rd_drop (HI0.out.sl.keep hu2 (fun _ _ h => h)) f (by omega)).keep ((Upd.refl (fun _ => False) w2).drew) (fun _ _ h => h)
  have HT2 : Hid (w2.drew.cell? ⟨b, 0, none⟩ = some (.slice (some ⟨gb, go, none⟩) ps.length c) ∧ w2.drew.cell? ⟨w.heap.size, 0, none⟩ = some (.int .i64 f) ∧ w2.drew.cell? ⟨w.heap.size, 1, none⟩ = some (.int .i64 n)) := ⟨g0, t0, t1⟩
  have hcf : ¬ c = f := by omega
  have hfl : f ≤ ps.length := by omega
  have hbl := HI0.out.blt
  have HT : Hid ((w2.alloc (.cells #[.slice none 0 0] 46)).drew.cell? ⟨b, 0, none⟩ = some (.slice (some ⟨gb, go, none⟩) ps.length c) ∧ (w2.alloc (.cells #[.slice none 0 0] 46)).drew.cell? ⟨w.heap.size, 0, none⟩ = some (.int .i64 f) ∧
      (w2.alloc (.cells #[.slice none 0 0] 46)).drew.cell? ⟨w.heap.size, 1, none⟩ = some (.int .i64 n) ∧ (w2.alloc (.cells #[.slice none 0 0] 46)).drew.heap[w.heap.size + 1]? = some (.cells #[.slice none 0 0] 46)) :=
    ⟨(hua.cellAt (by omega) (fun h => h)).trans g0, (hua.cellAt (by omega) (fun h => h)).trans t0, (hua.cellAt (by omega) (fun h => h)).trans t1, heap_alloc_last w2 _ hz2.symm⟩
  have hnb : ¬ w.heap.size + 1 = b := by omega
  go_region_held3 (fun W => W.cell? ⟨b, 0, none⟩ = some (.slice (some ⟨gb, go, none⟩) ps.length c) ∧ W.cell? ⟨w.heap.size, 0, none⟩ = some (.int .i64 f) ∧ W.cell? ⟨w.heap.size, 1, none⟩ = some (.int .i64 n)) (go_keep)
    (first
    | ((go_at_call 53; refine (cloneP_any HR2.out (by simp; omega) (by simp; omega)).mono ?_; rintro e w3 ⟨v', rfl, hs3, hf3, hb3⟩; obtain ⟨ao', c', rfl⟩ := hs3.rd.nil_iff; have k0 := (hb3.cell (p := ⟨b, 0, none⟩) (by simp; omega)).trans HT2.out.1; have k1 := (hb3.cell (p := ⟨w.heap.size, 0, none⟩) (by simp; omega)).trans HT2.out.2.1; have k2 := (hb3.cell (p := ⟨w.heap.size, 1, none⟩) (by simp; omega)).trans HT2.out.2.2))
    | ((go_at_call 53; refine (cloneP_any HR.out (by simp; omega) (by simp; omega)).mono ?_; rintro e w3 ⟨v', rfl, hs3, hf3, hb3⟩; obtain ⟨ao', c', rfl⟩ := hs3.rd.nil_iff; have k0 := (hb3.cell (p := ⟨b, 0, none⟩) (by simp; omega)).trans HT.out.1; have k1 := (hb3.cell (p := ⟨w.heap.size, 0, none⟩) (by simp; omega)).trans HT.out.2.1; have k2 := (hb3.cell (p := ⟨w.heap.size, 1, none⟩) (by simp; omega)).trans HT.out.2.2.1; have kb := (hb3.block (w.heap.size + 1) (by simp; omega)).trans HT.out.2.2.2; have k3 := cell_of_block kb 0; have k4 := frozen_of_block kb 0; simp at k3)))
  case' refine_2.refine_3.refine_3.refine_3.refine_3.refine_3.refine_3.refine_3.refine_1.refine_2.refine_1.refine_2.refine_1.refine_2 =>
    have hw35 : Upd (fun _ => False) w3 (w3.alloc (.cells #[.slice ao' (ps.length - f) c'] 46)) := (Upd.refl _ _).alloc _
    have hbox := heap_alloc_last w3 (.cells #[.slice ao' (ps.length - f) c'] 46) rfl
    have hBb := below_upd (below_upd (Below.refl _ w) hu2 (Nat.le_refl _) (fun _ h => h.elim)) (Upd.of_below (S := fun _ => False) (bundrew hb3)) (Nat.le_refl _) (fun _ h => h.elim)
    have hF : From w.heap.size (.slice ao' (ps.length - f) c') := fun g hg => by have := hf3 g (by rw [List.length_drop]; exact hg); simp at this; omega
    have hbs0 : w.heap.size ≤ w3.heap.size := hBb.size
    have hs5 := hs3.keep hw35 (fun _ _ h => h)
    have hB5 := below_upd hBb hw35 (Nat.le_refl _) (fun _ h => h.elim)
    have t5 := (hw35.cellAt (b := w.heap.size) (o := 0) (by have := hb3.size; simp at this; omega) (fun h => h)).trans k1
    have t6 := (hw35.cellAt (b := w.heap.size) (o := 1) (by have := hb3.size; simp at this; omega) (fun h => h)).trans k2
    have hbs1 : w3.heap.size ≠ w.heap.size := by have := hb3.size; simp at this; omega
    clear hw35 hs3 hf3 hb3 k0 k1 k2 hBb
    generalize (w3.alloc (.cells #[.slice ao' (ps.length - f) c'] 46)) = w5 at *
    generalize w3.heap.size = Bs at *
  rotate_left
  have hw35 : Upd (fun j => j = w.heap.size + 1) w3 (w3.setCell ⟨w.heap.size + 1, 0, none⟩ (.slice ao' (ps.length - f) c')) := upd_setCell _ _ _ _
  have hbox := heap_setCell_same kb 0 (.slice ao' (ps.length - f) c')
  simp at hbox
  have hBa := below_upd (below_upd (Below.refl _ w) hu2 (Nat.le_refl _) (fun _ h => h.elim)) hua (Nat.le_refl _) (fun _ h => h.elim)
  have hBb := below_upd hBa (Upd.of_below (S := fun _ => False) hb3) (Nat.le_refl _) (fun _ h => h.elim)
  have hF : From w.heap.size (.slice ao' (ps.length - f) c') := fun g hg => by have := hf3 g (by rw [List.length_drop]; exact hg); simp at this; omega
  have hbs0 : w.heap.size ≤ w.heap.size + 1 := by omega
  have hs5 := hs3.keep hw35 (fun g hg e => by have := hf3 g hg; simp at this; omega)
  have hB5 := below_upd hBb hw35 (Nat.le_refl _) (fun j e => by omega)
  have t5 := (hw35.cellAt (b := w.heap.size) (o := 0) (by have := hb3.size; simp at this; omega) (by omega)).trans k1
  have t6 := (hw35.cellAt (b := w.heap.size) (o := 1) (by have := hb3.size; simp at this; omega) (by omega)).trans k2
  have hbs1 : w.heap.size + 1 ≠ w.heap.size := by omega
  clear hw35 hs3 hf3 hb3 k0 k1 k2 k3 k4 kb hBa hBb hnb hua HT HT2 HR HR2
  generalize (w3.setCell ⟨w.heap.size + 1, 0, none⟩ (.slice ao' (ps.length - f) c')) = w5 at *
  generalize w.heap.size + 1 = Bs at *
  all_goals
    obtain ⟨g', off', cap', cur, hve, hg', hcs, hcc⟩ := hs5.at (by simp; omega)
  all_goals
    cases hve
    have hel : Hid (∀ j (h : j < (ps.drop f).length), w5.cell? ⟨g', off' + j * 2, none⟩ = some (.int .i64 (ps.drop f)[j].1) ∧ w5.cell? ⟨g', off' + j * 2 + 1, none⟩ = some (.bool (ps.drop f)[j].2)) :=
      fun j h => ⟨(cell_of_block hg' _).trans (hcc _ _ (plC_at h).1), (cell_of_block hg' _).trans (hcc (j * 2 + 1) _ (plC_at h).2)⟩
    have hgl := lt_of_block hg'
    have hgf := hF g' rfl
    have hbl5 := lt_of_block hbox
    have hcap : ps.length - f ≤ c' := by
      obtain ⟨_, ⟨h1, _⟩ | ⟨_, _, _, _, h1, _, h2, _⟩⟩ := hs5
      · cases h1
      · cases h1; simpa using h2
    have hgBs : g' ≠ Bs := fun e => by
      rw [e] at hg'
      rw [hg'] at hbox
      simp at hbox
    have y0 := cell_of_block hbox 0
    have y1 := frozen_of_block hbox 0
    simp at y0
    have HBX := Lib.hid hbox
    clear hcs hcc hg' hs5 hbox
    by_cases hlt : (n : Int) < ((ps.length - f : Nat) : Int)
    · have hn1 : n ≤ ps.length - f := by omega
      have hn2 : n ≤ c' := by omega
      have hL : Hid (spanL ps f n = (ps.drop f).take n) := rfl
      have hLn : (spanL ps f n).length = n := by simp [spanL]; omega
      go_wp2
      go_ret
      have hus : Upd (fun j => j = Bs) w5 (w5.setCell ⟨Bs, 0, none⟩ (.slice (some ⟨g', off', none⟩) n c')) := upd_setCell _ _ _ _
      have hspl := (addr_of_cell t5).2
      refine ⟨Bs, w.heap.size, g', off', c', rfl, ⟨Nat.le_refl _, hgf, hbs0⟩, by rw [World.size_setCell]; exact hbl5, by rw [World.size_setCell]; exact hspl, by rw [World.size_setCell]; exact hgl, ?_, (hus.cellAt hspl (fun e => hbs1 e.symm)).trans t5, ?_, hB5.setCell (p := ⟨Bs, 0, none⟩) hbs0 _⟩
      · rw [hLn, cell_of_block (heap_setCell_same HBX.out 0 _)]; simp
      · intro j hj
        have hj2 : j < (ps.drop f).length := by rw [hLn] at hj; simp; omega
        have e : (spanL ps f n)[j] = (ps.drop f)[j] := by simp [spanL]
        rw [e]
        exact ⟨(hus.cellAt hgl (fun e => hgBs e)).trans (hel.out j hj2).1, (hus.cellAt hgl (fun e => hgBs e)).trans (hel.out j hj2).2⟩
    · go_wp2
      go_ret
      have hL : spanL ps f n = ps.drop f := by unfold spanL; rw [List.take_of_length_le]; simp; omega
      rw [hL]
      have hspl := (addr_of_cell t5).2
      exact ⟨Bs, w.heap.size, rfl, g', ⟨Nat.le_refl _, hgf, hbs0⟩, hbl5, hspl, hgl, off', ⟨c', by rw [List.length_drop]; exact y0⟩, t5, hel.out, hB5⟩
end Go.Proofs.Ytmgcekpfnkcmjaa
