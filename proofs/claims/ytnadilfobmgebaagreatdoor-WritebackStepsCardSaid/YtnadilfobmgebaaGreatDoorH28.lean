/- A cache behind writes: its numbers are bounded; index, slots and clock go together. The chapter's example of layer 14. All: which iterator it gives, and what the block of its copy is. A range over an iterator that itself ranges over one: the law of the caller, where the caller's word abides whatever is no cells, beyond where it began. -/
import Derived.Test.YtnadilfobmgebaaGreatDoorH26
import Derived.Test.YtnadilfobmgebaaGreatDoorH27
import Derived.Test.YtnadilfobmgebaaGreatDoorH18
import Derived.RangeFuncNested
import Derived.RangeFuncBound
import Derived.Test.YtnadilfobmgebaaGreatDoorH20
namespace Go.Proofs.YtnadilfobmgebaaGreatDoor
open Go Go.RowKit
section
variable {n : CaN} {a : CaS} {N : Nat}
theorem CaS.takeR_next (n : CaN) (a : CaS) (s : Int) : a.next ≤ (a.takeR n s).1.next := by
  have h := (a.roomed_next n).1
  unfold CaS.takeR
  split
  · show a.next ≤ (a.roomed n).1.next; omega
  · show a.next ≤ (a.roomed n).1.next; omega
theorem CaS.take2_next (n : CaN) (a : CaS) : a.next ≤ (a.take2 n).1.next := by
  have h := (a.committed_next n).1
  unfold CaS.take2
  split
  · exact Nat.le_refl _
  · unfold CaS.take3
    split
    · show a.next ≤ (a.committed n).1.next; omega
    split
    · show a.next ≤ (a.committed n).1.next; omega
    · exact Nat.le_trans (by show a.next ≤ (a.committed n).1.next; omega) ((a.committed n).1.al.takeR_next n _)
theorem CaS.takes_next (n : CaN) (a : CaS) : a.next ≤ (a.takes n).1.next := by
  have h := CaS.evicts_next n 1 0 a.al
  unfold CaS.takes
  split
  · exact a.al.takeR_next n _
  · unfold CaS.take1
    split
    · split
      · exact h
      · exact Nat.le_trans h ((CaS.evicts n 1 0 a.al).1.take2_next n)
    · exact a.al.take2_next n
theorem CaS.Fit.backed (h : a.Fit N) (hg : a.Jg n) (h1 : 1 ≤ a.next) (hj : 4 ≤ n.jo) (k : Nat) (x : Bk) : (a.backed n k x).1.Fit (N + 3 * n.pa + n.jo + 6) := by
  have ht := h.takes' hg h1 hj
  have hn := a.takes_next n
  unfold CaS.backed
  split
  · exact ht.mono (by omega)
  split
  · exact (ht.bypassed (by omega) k x).mono (by omega)
  · have hf := ht.filled (n := n) (a.takes n).2.1.toNat (k : Int) x
    have hfn := (filled_next n (a.takes n).1 (a.takes n).2.1.toNat (k : Int) x).1
    unfold CaS.backS
    split
    · exact hf.mono (by omega)
    · exact (hf.putted (by omega) (k : Int) _ (crcC x) true (by have := crcC_lt x; omega)).mono (by omega)
theorem CaS.Fit.thru (h : a.Fit N) (hg : a.Jg n) (h1 : 1 ≤ a.next) (hj : 4 ≤ n.jo) (k : Nat) (x : Bk) : (a.thru n k x).1.Fit (N + 3 * n.pa + n.jo + 6) := by
  have ht := h.takes' hg h1 hj
  have hn := a.takes_next n
  unfold CaS.thru
  split
  · exact ht.mono (by omega)
  split
  · exact (ht.bypassed (by omega) k x).mono (by omega)
  · have hb := ht.bw k x
    unfold CaS.thruS
    split
    · exact (hb.turned _).mono (by omega)
    · have hf := hb.filled (n := n) (a.takes n).2.1.toNat (k : Int) x
      have hfn := (filled_next n ((a.takes n).1.bdev (writeR (a.takes n).1.bF (a.takes n).1.bO (a.takes n).1.bP k x)) (a.takes n).2.1.toNat (k : Int) x).1
      replace hfn : _ = (a.takes n).1.next := hfn
      unfold CaS.thruF
      split
      · exact (hf.byp (by rw [hfn]; omega) k).mono (by omega)
      · exact (hf.putted (by rw [hfn]; omega) (k : Int) _ (crcC x) false (by have := crcC_lt x; omega)).mono (by omega)
theorem CaS.Fit.wrote (h : a.Fit N) (hg : a.Jg n) (h1 : 1 ≤ a.next) (hj : 4 ≤ n.jo) (k : Int) (x : Bk) (md : Int) : (a.wrote n k x md).1.Fit (N + 3 * n.pa + n.jo + 6) := by
  unfold CaS.wrote
  split
  · exact h.mono (by omega)
  split
  · exact h.mono (by omega)
  split
  · exact h.backed hg h1 hj _ x
  split
  · exact h.thru hg h1 hj _ x
  · exact (h.bypassed h1 _ x).mono (by omega)
theorem CaS.Fit.gone (h : a.Fit N) (h1 : 1 ≤ a.next) (k : Int) : (a.gone n k).1.Fit (N + n.pa + 2) := by
  unfold CaS.gone
  split
  · exact h.mono (by omega)
  · exact h.bypassed h1 _ _
theorem CaS.Tie.backS {s k : Nat} (h : a.Tie n (some s)) (hk : k < n.bl) (x : Bk) : (a.backS n k s x).1.Tie n none := by
  unfold CaS.backS
  rcases CaS.Tie.filled h (k : Int) x with ⟨hc, ht⟩ | ⟨hc, ht⟩
  · rw [if_neg (by omega)]
    exact (CaS.Tie.put ht hk (crcC x) true).2.2
  · rw [if_pos hc]
    exact ht
theorem CaS.Tie.thruS {s k : Nat} (h : a.Tie n (some s)) (hk : k < n.bl) (x : Bk) : (a.thruS n k s x).1.Tie n none := by
  unfold CaS.thruS
  split
  · exact (TieL.shut h (.inl rfl)).2
  · unfold CaS.thruF
    have h' : (a.bdev (writeR a.bF a.bO a.bP k x)).Tie n (some s) := h
    rcases CaS.Tie.filled h' (k : Int) x with ⟨hc, ht⟩ | ⟨hc, ht⟩
    · rw [if_neg (by omega)]
      exact (CaS.Tie.put ht hk (crcC x) false).2.2
    · rw [if_pos hc]
      exact CaS.Tie.byp ht k
theorem CaS.Tie.backed (h : a.Tie n none) (h1 : 1 ≤ a.next) (hj : 4 ≤ n.jo) {k : Nat} (hk : k < n.bl) (x : Bk) : (a.backed n k x).1.Tie n none := by
  have ht := CaS.Tie.takes h h1 hj
  unfold CaS.backed
  rcases ht with ⟨h2, h3, -, s, h4, h5⟩ | ⟨h2, h5⟩
  · rw [if_neg (by omega), if_neg (by rw [h2]; decide), h4, Int.toNat_natCast]
    exact CaS.Tie.backS h5 hk x
  · split
    · exact h5
    · exact CaS.Tie.bypassed h5 k x
theorem CaS.Tie.thru (h : a.Tie n none) (h1 : 1 ≤ a.next) (hj : 4 ≤ n.jo) {k : Nat} (hk : k < n.bl) (x : Bk) : (a.thru n k x).1.Tie n none := by
  have ht := CaS.Tie.takes h h1 hj
  unfold CaS.thru
  rcases ht with ⟨h2, h3, -, s, h4, h5⟩ | ⟨h2, h5⟩
  · rw [if_neg (by omega), if_neg (by rw [h2]; decide), h4, Int.toNat_natCast]
    exact CaS.Tie.thruS h5 hk x
  · split
    · exact h5
    · exact CaS.Tie.bypassed h5 k x
theorem CaS.Tie.wrote (h : a.Tie n none) (h1 : 1 ≤ a.next) (hj : 4 ≤ n.jo) (k : Int) (x : Bk) (md : Int) : (a.wrote n k x md).1.Tie n none := by
  unfold CaS.wrote
  split
  · exact h
  next hk =>
  split
  · exact h
  split
  · exact CaS.Tie.backed h h1 hj (by omega) x
  split
  · exact CaS.Tie.thru h h1 hj (by omega) x
  · exact CaS.Tie.bypassed h _ x
theorem CaS.Tie.gone (h : a.Tie n none) (k : Int) : (a.gone n k).1.Tie n none := by
  unfold CaS.gone
  split
  · exact h
  · exact CaS.Tie.bypassed h _ _
end
theorem made_tie (n : CaN) : (madeS n).Tie n none := by
  have e : (madeS n).st = freeTo (List.replicate n.sl 0) (pos (List.replicate n.sl 0) 3) := rfl
  have h0 : ∀ k, plc (List.replicate n.bl (-1, false)) k = (-1, false) := fun k => by
    rw [plc, List.getD_eq_getElem?_getD, List.getElem?_replicate]
    split <;> rfl
  have hs : ∀ s, (List.replicate n.sl (0 : Int)).getD s 0 = 0 := fun s => by
    rw [List.getD_eq_getElem?_getD, List.getElem?_replicate]
    split <;> rfl
  have : TieL n.bl n.sl (List.replicate n.bl (-1, false)) (List.replicate n.sl 0) [] none := {
    hpl := List.length_replicate
    hsl := List.length_replicate
    good := Good.start _ _
    live := fun k _ hn => absurd (h0 k) hn
    used := fun s _ h2 => by rw [hs] at h2; cases h2
    opn := fun s _ => by rw [hs]; simp
    rng := fun s _ => by rw [hs]; decide
    olt := fun s h => by cases h
    kk := fun k => by
      rw [getC_iff]
      constructor
      · intro h; cases h
      · rintro ⟨m, -, -, hn⟩; exact absurd (h0 m) hn
    kd := List.nodup_nil }
  exact this.freed
theorem made_fit (n : CaN) : (madeS n).Fit 3 where
  sm := fun k v h => by cases h
  w1 := fun q h => by cases h
  nx := by show (1 : Nat) ≤ 3; decide
  iN := by show (0 : Nat) ≤ 3; decide
  kN := by show (0 : Nat) ≤ 3; decide
  mN := by show (0 : Nat) ≤ 3; decide
  dO := by show (0 : Nat) ≤ 3; decide
  bO := by show (0 : Nat) ≤ 3; decide
theorem sizeU8 (w : World) : (sizeOf 5).run Tryz.prog w = .ok 1 w := by
  obtain ⟨i, hi, hs⟩ := Option.map_eq_some_iff.1 (show (Tryz.prog.info? 5).map (·.size) = some 1 by kernel_rfl)
  simp [sizeOf, typeInfo, hi, hs]
theorem smN_ok (bl sl jo : Nat) (h1 : 1 ≤ bl) (h2 : bl ≤ 12) (h3 : 1 ≤ sl) (h4 : sl ≤ 8) (h5 : 4 ≤ jo) (h6 : jo ≤ 12) : (smN bl sl jo).Ok := by
  have hp : (sl - 1) / 4 ≤ 1 := by omega
  constructor <;> simp only [smN, CaN.size] <;> omega
theorem Did.below {own own' : Nat → Nat} {w0 w w' : World} (h : Did own own' w w') (hb : Below w0.heap.size w0 w) (ho : ∀ j, j < w0.heap.size → own j = 0) : Below w0.heap.size w0 w' :=
  below_upd hb h.upd (Nat.le_refl _) (fun k hk => Nat.le_of_not_lt fun hlt => hk.1 (ho k hlt))
def AllOut9 (w : World) (ps : List (Int × Bool)) (f n : Nat) (e : Ending) (w' : World) : Prop :=
  ∃ Bs Bp g off cap, e = .returned (.func (.func 196) #[] #[.pointer (some ⟨Bs, 0, none⟩), .pointer (some ⟨Bp, 0, none⟩)]) ∧
    (w.heap.size ≤ Bp ∧ w.heap.size ≤ g ∧ w.heap.size ≤ Bs) ∧ Bs < w'.heap.size ∧ (∃ cs z, w'.heap[Bp]? = some (.cells cs 37 z)) ∧ (∃ cs z, w'.heap[g]? = some (.cells cs 108 z)) ∧ w'.cell? ⟨Bs, 0, none⟩ = some (.slice (some ⟨g, off, none⟩) (spanL ps f n).length cap) ∧ w'.cell? ⟨Bp, 0, none⟩ = some (.int .i64 f) ∧
    (∀ j (h : j < (spanL ps f n).length), w'.cell? ⟨g, off + j * 2, none⟩ = some (.int .i64 (spanL ps f n)[j].1) ∧ w'.cell? ⟨g, off + j * 2 + 1, none⟩ = some (.bool (spanL ps f n)[j].2)) ∧ Below w.heap.size w w'
set_option maxRecDepth 100000 in
set_option maxHeartbeats 1000000 in
theorem all_inT {w : World} {b mb N : Nat} {v : Value} {ps : List (Int × Bool)} {slots : Nat} (h : IndexAt w b v mb N ps slots) (f n : Nat) (hf : f < ps.length) :
    Calls Tryz.prog 156 #[.pointer (some ⟨b, 0, none⟩), spanV f n] w (AllOut9 w ps f n) := by
  have hu : Upd (fun _ => False) w (w.alloc (.cells #[.int .i64 f, .int .i64 n] 37)) := (Upd.refl _ _).alloc _
  have g0 := (hu.cellAt (o := 0) h.blt (fun h => h)).trans (cell_of_block h.str 0)
  simp at g0
  have hle := h.le
  have HI0 := Lib.hid h
  obtain ⟨ao, c, rfl⟩ := h.sl.rd.nil_iff
  have d1 : ¬ (f : Int) < 0 := by omega
  have d2 : ¬ (n : Int) < 0 := by omega
  have d3 : ¬ (ps.length : Int) ≤ f := by omega
  clear h
  go_enter Tryz.func156, Tryz.ntmps156
  go_wp2
  go_quiet (fail)
  go_wp2
  clear g0
  generalize hw2 : (w.alloc (.cells #[.int .i64 f, .int .i64 n] 37)).drewN nq = w2
  have hu2 : Upd (fun _ => False) w w2 := by rw [← hw2]; exact hu.drewN nq
  have hsp : w2.heap[w.heap.size]? = some (.cells #[.int .i64 f, .int .i64 n] 37) := by rw [← hw2]; exact heap_alloc_last w _ rfl
  have hz2 : w2.heap.size = w.heap.size + 1 := by rw [← hw2]; simp [World.drewN]
  clear hw2 hu
  have t0 := cell_of_block hsp 0
  have t1 := cell_of_block hsp 1
  simp at t0 t1
  have g0 := (hu2.cellAt (o := 0) HI0.out.blt (fun h => h)).trans (cell_of_block HI0.out.str 0)
  simp at g0
  obtain ⟨gb, go, rfl, hgc1⟩ : ∃ gb go, ao = some (⟨gb, go, none⟩ : Addr) ∧ ps.length ≤ c := by
    obtain ⟨hl, ⟨h1, h2⟩ | ⟨g', off', cap', cur, h1, hg, hn, _⟩⟩ := HI0.out.sl
    · omega
    · cases h1; exact ⟨g', off', rfl, hn⟩
  have hua : Upd (fun _ => False) w2 (w2.alloc (.cells #[.slice none 0 0] 227)).drew := ((Upd.refl _ _).alloc _).drew
  have HR : Hid (Rd (w2.alloc (.cells #[.slice none 0 0] 227)).drew 2 (.slice (some ⟨gb, go + f * 2, none⟩) (ps.length - f) (c - f)) (ps.drop f).length (plC (ps.drop f))) :=
    (rd_drop (HI0.out.sl.keep hu2 (fun _ _ h => h)) f (by omega)).keep hua (fun _ _ h => h)
  have HR2 : Hid (Rd w2.drew 2 (.slice (some ⟨gb, go + f * 2, none⟩) (ps.length - f) (c - f)) (ps.drop f).length (plC (ps.drop f))) :=
    (rd_drop (HI0.out.sl.keep hu2 (fun _ _ h => h)) f (by omega)).keep ((Upd.refl (fun _ => False) w2).drew) (fun _ _ h => h)
  have HT2 : Hid (w2.drew.cell? ⟨b, 0, none⟩ = some (.slice (some ⟨gb, go, none⟩) ps.length c) ∧ w2.drew.cell? ⟨w.heap.size, 0, none⟩ = some (.int .i64 f) ∧ w2.drew.cell? ⟨w.heap.size, 1, none⟩ = some (.int .i64 n) ∧ w2.drew.heap[w.heap.size]? = some (.cells #[.int .i64 f, .int .i64 n] 37)) := ⟨g0, t0, t1, hsp⟩
  have hcf : ¬ c = f := by omega
  have hfl : f ≤ ps.length := by omega
  have hbl := HI0.out.blt
  have HT : Hid ((w2.alloc (.cells #[.slice none 0 0] 227)).drew.cell? ⟨b, 0, none⟩ = some (.slice (some ⟨gb, go, none⟩) ps.length c) ∧ (w2.alloc (.cells #[.slice none 0 0] 227)).drew.cell? ⟨w.heap.size, 0, none⟩ = some (.int .i64 f) ∧
      (w2.alloc (.cells #[.slice none 0 0] 227)).drew.cell? ⟨w.heap.size, 1, none⟩ = some (.int .i64 n) ∧ (w2.alloc (.cells #[.slice none 0 0] 227)).drew.heap[w.heap.size + 1]? = some (.cells #[.slice none 0 0] 227) ∧ (w2.alloc (.cells #[.slice none 0 0] 227)).drew.heap[w.heap.size]? = some (.cells #[.int .i64 f, .int .i64 n] 37)) :=
    ⟨(hua.cellAt (by omega) (fun h => h)).trans g0, (hua.cellAt (by omega) (fun h => h)).trans t0, (hua.cellAt (by omega) (fun h => h)).trans t1, heap_alloc_last w2 _ hz2.symm, (hua.block _ (lt_of_block hsp) (fun h => h)).trans hsp⟩
  have hnb : ¬ w.heap.size + 1 = b := by omega
  go_region_held3 (fun W => W.cell? ⟨b, 0, none⟩ = some (.slice (some ⟨gb, go, none⟩) ps.length c) ∧ W.cell? ⟨w.heap.size, 0, none⟩ = some (.int .i64 f) ∧ W.cell? ⟨w.heap.size, 1, none⟩ = some (.int .i64 n)) (go_keep)
    (first
    | ((go_at_call 195; refine (cloneP_any HR2.out (by simp; omega) (by simp; omega)).mono ?_; rintro e w3 ⟨v', rfl, hs3, hf3, hb3⟩; obtain ⟨ao', c', rfl⟩ := hs3.rd.nil_iff; have k0 := (hb3.cell (p := ⟨b, 0, none⟩) (by simp; omega)).trans HT2.out.1; have k1 := (hb3.cell (p := ⟨w.heap.size, 0, none⟩) (by simp; omega)).trans HT2.out.2.1; have k2 := (hb3.cell (p := ⟨w.heap.size, 1, none⟩) (by simp; omega)).trans HT2.out.2.2.1; have kS := (hb3.block w.heap.size (by simp; omega)).trans HT2.out.2.2.2))
    | ((go_at_call 195; refine (cloneP_any HR.out (by simp; omega) (by simp; omega)).mono ?_; rintro e w3 ⟨v', rfl, hs3, hf3, hb3⟩; obtain ⟨ao', c', rfl⟩ := hs3.rd.nil_iff; have k0 := (hb3.cell (p := ⟨b, 0, none⟩) (by simp; omega)).trans HT.out.1; have k1 := (hb3.cell (p := ⟨w.heap.size, 0, none⟩) (by simp; omega)).trans HT.out.2.1; have k2 := (hb3.cell (p := ⟨w.heap.size, 1, none⟩) (by simp; omega)).trans HT.out.2.2.1; have kb := (hb3.block (w.heap.size + 1) (by simp; omega)).trans HT.out.2.2.2.1; have kS := (hb3.block w.heap.size (by simp; omega)).trans HT.out.2.2.2.2; have k3 := cell_of_block kb 0; have k4 := frozen_of_block kb 0; simp at k3)))
  case' refine_2.refine_3.refine_3.refine_3.refine_3.refine_3.refine_3.refine_3.refine_1.refine_2.refine_1.refine_2.refine_1.refine_2 =>
    have hw35 : Upd (fun _ => False) w3 (w3.alloc (.cells #[.slice ao' (ps.length - f) c'] 227)) := (Upd.refl _ _).alloc _
    have hbox := heap_alloc_last w3 (.cells #[.slice ao' (ps.length - f) c'] 227) rfl
    have hBb := below_upd (below_upd (Below.refl _ w) hu2 (Nat.le_refl _) (fun _ h => h.elim)) (Upd.of_below (S := fun _ => False) (bundrew hb3)) (Nat.le_refl _) (fun _ h => h.elim)
    have hF : From w.heap.size (.slice ao' (ps.length - f) c') := fun g hg => by have := hf3 g (by rw [List.length_drop]; exact hg); simp at this; omega
    have hbs0 : w.heap.size ≤ w3.heap.size := hBb.size
    have hs5 := hs3.keep hw35 (fun _ _ h => h)
    have hsP := (hw35.block _ (lt_of_block kS) (fun h => h)).trans kS
    have hB5 := below_upd hBb hw35 (Nat.le_refl _) (fun _ h => h.elim)
    have t5 := (hw35.cellAt (b := w.heap.size) (o := 0) (by have := hb3.size; simp at this; omega) (fun h => h)).trans k1
    have t6 := (hw35.cellAt (b := w.heap.size) (o := 1) (by have := hb3.size; simp at this; omega) (fun h => h)).trans k2
    have hbs1 : w3.heap.size ≠ w.heap.size := by have := hb3.size; simp at this; omega
    clear hw35 hs3 hf3 hb3 kS k0 k1 k2 hBb
    generalize (w3.alloc (.cells #[.slice ao' (ps.length - f) c'] 227)) = w5 at *
    generalize w3.heap.size = Bs at *
  rotate_left
  have hw35 : Upd (fun j => j = w.heap.size + 1) w3 (w3.setCell ⟨w.heap.size + 1, 0, none⟩ (.slice ao' (ps.length - f) c')) := upd_setCell _ _ _ _
  have hbox := heap_setCell_same kb 0 (.slice ao' (ps.length - f) c')
  simp at hbox
  have hBa := below_upd (below_upd (Below.refl _ w) hu2 (Nat.le_refl _) (fun _ h => h.elim)) hua (Nat.le_refl _) (fun _ h => h.elim)
  have hBb := below_upd hBa (Upd.of_below (S := fun _ => False) hb3) (Nat.le_refl _) (fun _ h => h.elim)
  have hF : From w.heap.size (.slice ao' (ps.length - f) c') := fun g hg => by have := hf3 g (by rw [List.length_drop]; exact hg); simp at this; omega
  have hbs0 : w.heap.size ≤ w.heap.size + 1 := by omega
  have hsP := (hw35.block _ (lt_of_block kS) (by omega)).trans kS
  have hs5 := hs3.keep hw35 (fun g hg e => by have := hf3 g hg; simp at this; omega)
  have hB5 := below_upd hBb hw35 (Nat.le_refl _) (fun j e => by omega)
  have t5 := (hw35.cellAt (b := w.heap.size) (o := 0) (by have := hb3.size; simp at this; omega) (by omega)).trans k1
  have t6 := (hw35.cellAt (b := w.heap.size) (o := 1) (by have := hb3.size; simp at this; omega) (by omega)).trans k2
  have hbs1 : w.heap.size + 1 ≠ w.heap.size := by omega
  clear hw35 hs3 hf3 hb3 kS k0 k1 k2 k3 k4 kb hBa hBb hnb hua HT HT2 HR HR2
  generalize (w3.setCell ⟨w.heap.size + 1, 0, none⟩ (.slice ao' (ps.length - f) c')) = w5 at *
  generalize w.heap.size + 1 = Bs at *
  all_goals
    obtain ⟨g', off', cap', cur, hve, hg', hcs, hcc⟩ := hs5.at (by simp; omega)
  all_goals
    cases hve
    have hel : Hid (∀ j (h : j < (ps.drop f).length), w5.cell? ⟨g', off' + j * 2, none⟩ = some (.int .i64 (ps.drop f)[j].1) ∧ w5.cell? ⟨g', off' + j * 2 + 1, none⟩ = some (.bool (ps.drop f)[j].2)) :=
      fun j h => ⟨(cell_of_block hg' _).trans (hcc _ _ (plC_at h).1), (cell_of_block hg' _).trans (hcc (j * 2 + 1) _ (plC_at h).2)⟩
    have hgl := lt_of_block hg'
    have hgf := hF g' rfl
    have hbl5 := lt_of_block hbox
    have hcap : ps.length - f ≤ c' := by
      obtain ⟨_, ⟨h1, _⟩ | ⟨_, _, _, _, h1, _, h2, _⟩⟩ := hs5
      · cases h1
      · cases h1; simpa using h2
    have hgBs : g' ≠ Bs := fun e => by
      rw [e] at hg'
      rw [hg'] at hbox
      simp at hbox
    have y0 := cell_of_block hbox 0
    have y1 := frozen_of_block hbox 0
    simp at y0
    have HBX := Lib.hid hbox
    have HG2 := Lib.hid hg'
    have HG3 := Lib.hid hsP
    clear hsP hcs hcc hg' hs5 hbox
    by_cases hlt : (n : Int) < ((ps.length - f : Nat) : Int)
    · have hn1 : n ≤ ps.length - f := by omega
      have hn2 : n ≤ c' := by omega
      have hL : Hid (spanL ps f n = (ps.drop f).take n) := rfl
      have hLn : (spanL ps f n).length = n := by simp [spanL]; omega
      go_wp2
      go_ret
      have hus : Upd (fun j => j = Bs) w5 (w5.setCell ⟨Bs, 0, none⟩ (.slice (some ⟨g', off', none⟩) n c')) := upd_setCell _ _ _ _
      have hspl := (addr_of_cell t5).2
      refine ⟨Bs, w.heap.size, g', off', c', rfl, ⟨Nat.le_refl _, hgf, hbs0⟩, by rw [World.size_setCell]; exact hbl5, ⟨_, _, (hus.block _ (lt_of_block HG3.out) (fun e => hbs1 e.symm)).trans HG3.out⟩, ⟨_, _, (hus.block g' hgl (fun e => hgBs e)).trans HG2.out⟩, ?_, (hus.cellAt hspl (fun e => hbs1 e.symm)).trans t5, ?_, hB5.setCell (p := ⟨Bs, 0, none⟩) hbs0 _⟩
      · rw [hLn, cell_of_block (heap_setCell_same HBX.out 0 _)]; simp
      · intro j hj
        have hj2 : j < (ps.drop f).length := by rw [hLn] at hj; simp; omega
        have e : (spanL ps f n)[j] = (ps.drop f)[j] := by simp [spanL]
        rw [e]
        exact ⟨(hus.cellAt hgl (fun e => hgBs e)).trans (hel.out j hj2).1, (hus.cellAt hgl (fun e => hgBs e)).trans (hel.out j hj2).2⟩
    · go_wp2
      go_ret
      have hL : spanL ps f n = ps.drop f := by unfold spanL; rw [List.take_of_length_le]; simp; omega
      have hspl := (addr_of_cell t5).2
      exact ⟨Bs, w.heap.size, g', off', c', rfl, ⟨Nat.le_refl _, hgf, hbs0⟩, hbl5, ⟨_, _, HG3.out⟩, ⟨_, _, HG2.out⟩, by rw [hL, List.length_drop]; exact y0, t5, by rw [hL]; exact hel.out, hB5⟩
def SeqO {α : Type} (n g : Nat) (lb : Array Value) (encs : α → Array Value) (Kp : World → World → Prop) (S Sp : List α → Prop) (N : Nat) (w : World) : Prop :=
  ∀ (l : Nat) (J Jx : List α → World → Prop) (W : World), Below w.heap.size w W → w.heap.size + 2 ≤ W.heap.size → OwnFrom W.heap.size J → OwnFrom W.heap.size Jx →
    (∀ pre x W1, J pre W1 → pre.length < N → YieldAt Fence.wide (n - 1) Tryz.prog l (encs x) W1 fun e W' =>
      (e = .returned (.bool true) ∧ J (pre ++ [x]) W' ∧ Kp W1 W') ∨ (e = .returned (.bool false) ∧ Jx (pre ++ [x]) W' ∧ Kp W1 W')) →
    J [] W →
    CallsIn Fence.wide n Tryz.prog g (#[.func (.yield l) #[] #[]] ++ lb) W fun e W' => (∃ v, e = .returned v) ∧ ((∃ xs, S xs ∧ J xs W') ∨ (∃ pre, Sp pre ∧ Jx pre W'))
def ownPostO {α : Type} (B : Nat) (Kp : World → World → Prop) (I : List α → World → Prop) (Ix : Code → List α → World → Prop) (xs : List α) (W : World) : Exit → Act → World → Prop
  | .normal, _, W' => KeepsFrom B W W' ∧ Kp W W' ∧ I xs W'
  | .ret, _, W' => KeepsFrom B W W' ∧ Kp W W' ∧ Ix .ret xs W'
  | .exit id, _, W' => KeepsFrom B W W' ∧ Kp W W' ∧ Ix (.exit id) xs W'
  | .goto t, _, W' => KeepsFrom B W W' ∧ Kp W W' ∧ Ix (.goto t) xs W'
  | .panic _, _, _ => False
  | .outgrown, _, _ => False
theorem grown_at {W W' : World} {row : Option Nat} (hg : W.grownBy W' row) {B r : Nat} {o : Obj} (hr : ∀ k, row = some k → B ≤ k) (hB : r < B) (h : W.heap[r]? = some o) : W'.heap[r]? = some o :=
  (hg.block r (Array.getElem?_eq_some_iff.1 h).1 (fun e => by have := hr r e.symm; omega)).trans h
section
variable {α : Type} {g : Operand} {ps : Array Tmp} {assign body : Code} {Q : Exit → Act → World → Prop} {a : Act} {w : World}
set_option maxHeartbeats 1000000 in
theorem wpIn_rangeO {n : Nat} {gf : Nat} {lb : Array Value} (hg : a.eval g = .func (.func gf) #[] lb) (eg : ∀ args w, (callFunc gf args).run Tryz.prog w = .ok (.enter gf args) w)
    {encs : α → Array Value} {Kp : World → World → Prop} {S Sp : List α → Prop} {N : Nat} {w0 : World} (hseq : SeqO (n - 1) gf lb encs Kp S Sp N w0)
    (hKt : ∀ {A B C : World}, Kp A B → Kp B C → Kp A C) (hKb : ∀ (W : World) (o o' : Obj), W.heap[w.heap.size + 1]? = some o → o.isCells = false → Kp W (W.putObj (w.heap.size + 1) o')) (hb0 : Below w0.heap.size w0 w) (hps : ∀ x, (encs x).size = ps.size)
    (I : List α → World → Prop) (Ix : Code → List α → World → Prop) (hI : OwnFrom w.heap.size I) (hIx : ∀ c, OwnFrom w.heap.size (Ix c)) (h0 : I [] w) (a₁ : α → Act)
    (hassign : ∀ (l : Nat) (x : α) (W : World) (K : Act → World → Prop), K (a₁ x) W →
      assign.wpIn (Fence.wide.inRound l) (n - 1 - 1) Tryz.prog (Exit.then K (fun _ _ _ => False)) { tmps := (ps.zip (encs x)).foldl (fun t (p, v) => t.setIfInBounds p v) a.tmps, defers := [] } W)
    (hbody : ∀ (l : Nat) (pre : List α) (x : α) (W : World), I pre W → pre.length < N → body.wpIn (Fence.wide.inRound l) (n - 1 - 1) Tryz.prog (ownPostO w.heap.size Kp I Ix (pre ++ [x]) W) (a₁ x) W)
    (hdone : ∀ (D : Nat) (xs : List α) (W : World), w.heap.size ≤ D → S xs → I xs W → W.heap[D]? = some (.deferred (some [])) → Q .normal { a with defers := { target := .collected D, args := #[] } :: a.defers } W)
    (hstop : ∀ (D : Nat) (c : Code) (pre : List α) (W : World), w.heap.size ≤ D → Sp pre → Ix c pre W → W.heap[D]? = some (.deferred (some [])) → c.wpIn Fence.wide n Tryz.prog Q { a with defers := { target := .collected D, args := #[] } :: a.defers } W) :
    (Code.rangeFunc g ps assign body).wpIn Fence.wide n Tryz.prog Q a w := by
  refine wpIn_rangeFunc fun fn hfn => ?_
  obtain ⟨M, hM⟩ : ∃ M, M = w.heap.size := ⟨_, rfl⟩
  obtain ⟨rc, hrc⟩ : ∃ rc : LoopState → Option Code → Loop, rc = fun st pe => { state := st, pending := pe, fn, tmps := a.tmps, params := ps, assign, body, defers := M } := ⟨_, rfl⟩
  obtain ⟨W1, hW1⟩ : ∃ W1, W1 = (w.alloc (.deferred (some []))).alloc (.loop (rc .ready none)) := ⟨_, rfl⟩
  have hz : W1.heap.size = M + 2 := by rw [hW1, hM]; simp
  have hl1 : W1.heap[M + 1]? = some (.loop (rc .ready none)) := by
    rw [hW1, hM]
    have := World.alloc_heap_new (w.alloc (.deferred (some []))) (.loop (rc .ready none))
    rwa [World.size_alloc] at this
  have hk1 : W1.heap[M]? = some (.deferred (some [])) := by rw [hW1, hM]; exact (Below.heap_alloc _ _ _ (by simp)).trans (World.alloc_heap_new w _)
  rw [← hM] at hI hIx hKb hbody hdone hstop
  have hI1 : I [] W1 := by rw [hW1]; exact hI.alloc _ (hI.alloc _ h0)
  have hb1 : Below w0.heap.size w0 W1 := by
    rw [hW1]
    exact hb0.trans ((((Below.refl _ w).alloc (Nat.le_refl _) _).alloc (by simp) _).mono hb0.size)
  refine ⟨M + 1, [{ target := .collected M, args := #[] }], W1, { target := .fn (.func gf) lb, args := #[.func (.yield (M + 1)) #[] #[]] }, W1, gf, #[.func (.yield (M + 1)) #[] #[]] ++ lb, W1, ?_, ?_, ?_, ?_, fun e => (by cases e), ?_⟩
  · rw [hW1, hrc, hM]; exact run_enterLoop_outer _ _ _ _ _
  · simp only [resolve, hg]; simp [go_sem]
  · intro _ _; trivial
  · simp [invoke, go_sem, eg]
  have hbey : ∀ {row : Option Nat} {A : World}, (∀ r, row = some r → W1.heap.size ≤ r ∧ ∃ o : Obj, A.heap[r]? = some o ∧ o.isCells = false) → (∀ r, row = some r → M ≤ r ∧ ∃ o : Obj, A.heap[r]? = some o ∧ o.isCells = false) :=
    fun hr r e => ⟨by have := (hr r e).1; omega, (hr r e).2⟩
  refine (hseq (M + 1) (fun pre W => I pre W ∧ W.heap[M + 1]? = some (.loop (rc .ready none)) ∧ W.heap[M]? = some (.deferred (some [])))
    (fun pre W => ∃ c, Ix c pre W ∧ W.heap[M + 1]? = some (.loop (rc .done (some c))) ∧ W.heap[M]? = some (.deferred (some []))) W1 hb1 (by have := hb0.size; omega)
    (fun s A B row hs hgr hr => ⟨hI s A B row hs.1 hgr (hbey hr), grown_at hgr (fun k e => (hr k e).1) (by omega) hs.2.1, grown_at hgr (fun k e => (hr k e).1) (by omega) hs.2.2⟩)
    (fun s A B row ⟨c, hc, hl, hk⟩ hgr hr => ⟨c, hIx c s A B row hc hgr (hbey hr), grown_at hgr (fun k e => (hr k e).1) (by omega) hl, grown_at hgr (fun k e => (hr k e).1) (by omega) hk⟩)
    ?_ ⟨hI1, hl1, hk1⟩).mono ?_
  · rintro pre x W ⟨hi, hl, hk⟩ hlen
    have hlt : M + 1 < W.heap.size := (Array.getElem?_eq_some_iff.1 hl).1
    have hy := run_yield (P := Tryz.prog) (args := encs x) hl (by rw [hrc]; exact hps x)
    rw [hrc] at hy
    refine ⟨fn, _, assign, body, hy, roundIn_of_wpIn hfn (hassign _ x W _ ?_)⟩
    clear hy
    obtain ⟨V, hV⟩ : ∃ V, V = W.putObj (M + 1) (.loop { rc .ready none with state := .busy }) := ⟨_, rfl⟩
    have hV1 : V.heap[M + 1]? = some (.loop { rc .ready none with state := .busy }) := by rw [hV]; exact World.putObj_heap_same hlt
    have hV0 : V.heap[M]? = some (.deferred (some [])) := by rw [hV]; exact (World.putObj_heap_other (by omega)).trans hk
    have hKV : Kp W V := by rw [hV]; exact hKb _ _ _ hl rfl
    have hiV : I pre V := by rw [hV]; exact hI.putObj _ hi (by omega) hl rfl
    refine ⟨V, by rw [hV]; exact run_beginRound hl (by rw [hrc]), ?_⟩
    refine wpIn_mono (hbody _ pre x V hiV hlen) ?_
    have fin : ∀ (jump : Option Code) (X : World), KeepsFrom M V X → ∃ X', X' = X.putObj (M + 1) (.loop (rc (if jump.isNone then .ready else .done) jump)) ∧ (Instr.endRound (M + 1) jump).run Tryz.prog X = .ok (.bool jump.isNone) X' ∧
        X.heap[M + 1]? = some (.loop { rc .ready none with state := .busy }) ∧ X'.heap[M + 1]? = some (.loop (rc (if jump.isNone then .ready else .done) jump)) ∧ X'.heap[M]? = some (.deferred (some [])) := fun jump X hX => by
      have h1 := hX.same _ _ (by omega) hV1 rfl
      have h2 := hX.same _ _ (Nat.le_refl _) hV0 rfl
      have h3 := run_endRound (P := Tryz.prog) jump h1
      refine ⟨_, rfl, ?_, h1, World.putObj_heap_same (Array.getElem?_eq_some_iff.1 h1).1, (World.putObj_heap_other (by omega)).trans h2⟩
      rw [hrc] at h3 ⊢
      exact h3
    rintro e a3 X hp
    cases e with
    | normal =>
      obtain ⟨hX, hKX, hiX⟩ := hp
      obtain ⟨X', rfl, h3, h1, h4, h5⟩ := fin none X hX
      exact ⟨_, _, h3, .inl ⟨rfl, ⟨hI.putObj _ hiX (by omega) h1 rfl, h4, h5⟩, hKt (hKt hKV hKX) (hKb _ _ _ h1 rfl)⟩⟩
    | ret =>
      obtain ⟨hX, hKX, hiX⟩ := hp
      obtain ⟨X', rfl, h3, h1, h4, h5⟩ := fin (some .ret) X hX
      exact ⟨_, _, h3, .inr ⟨rfl, ⟨_, (hIx _).putObj _ hiX (by omega) h1 rfl, h4, h5⟩, hKt (hKt hKV hKX) (hKb _ _ _ h1 rfl)⟩⟩
    | exit id =>
      obtain ⟨hX, hKX, hiX⟩ := hp
      obtain ⟨X', rfl, h3, h1, h4, h5⟩ := fin (some (.exit id)) X hX
      exact ⟨_, _, h3, .inr ⟨rfl, ⟨_, (hIx _).putObj _ hiX (by omega) h1 rfl, h4, h5⟩, hKt (hKt hKV hKX) (hKb _ _ _ h1 rfl)⟩⟩
    | goto t =>
      obtain ⟨hX, hKX, hiX⟩ := hp
      obtain ⟨X', rfl, h3, h1, h4, h5⟩ := fin (some (.goto t)) X hX
      exact ⟨_, _, h3, .inr ⟨rfl, ⟨_, (hIx _).putObj _ hiX (by omega) h1 rfl, h4, h5⟩, hKt (hKt hKV hKX) (hKb _ _ _ h1 rfl)⟩⟩
    | panic ch => exact hp.elim
    | outgrown => exact hp.elim
  · rintro e X ⟨⟨v, rfl⟩, ⟨xs, hS, hi, hl, hk⟩ | ⟨pre, hSp, c, hi, hl, hk⟩⟩
    · have h3 := run_endLoop (P := Tryz.prog) hl (by rw [hrc]; simp)
      rw [hrc] at h3
      exact ⟨none, _, h3, hdone _ xs _ (Nat.le_refl _) hS (hI.putObj _ hi (by omega) hl rfl) ((World.putObj_heap_other (by omega)).trans hk)⟩
    · have h3 := run_endLoop (P := Tryz.prog) hl (by rw [hrc]; simp)
      rw [hrc] at h3
      exact ⟨some c, _, h3, hstop _ c pre _ (Nat.le_refl _) hSp ((hIx c).putObj _ hi (by omega) hl rfl) ((World.putObj_heap_other (by omega)).trans hk)⟩
end
end Go.Proofs.YtnadilfobmgebaaGreatDoor
