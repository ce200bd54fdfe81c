/- Len and Dirty. -/
import Derived.Test.YtmgcekpfnkcmjaaIndexAll
import Derived.RangeFuncNested
namespace Go.Proofs.Ytmgcekpfnkcmjaa
open Go Go.RowKit Go.Shelf
attribute [local go_sem] Oper.semAt_some

theorem len1_ok (s : Int) (d : Bool) (w : World) : Calls Try.prog 61 #[placeV s d] w fun e w' => e = .returned (.bool true) ∧ Upd (fun _ => False) w w' := by
  go_enter Try.func61, Try.ntmps61
  go_wp2
  go_ret
  exact ⟨rfl, (Upd.refl _ _).alloc _⟩
theorem dirty1_ok (s : Int) (d : Bool) (w : World) : Calls Try.prog 62 #[placeV s d] w fun e w' => e = .returned (.bool d) ∧ Upd (fun _ => False) w w' := by
  go_enter Try.func62, Try.ntmps62
  go_wp2
  go_ret
  exact ⟨rfl, (Upd.refl _ _).alloc _⟩

theorem upd_t {S : Nat → Prop} {A B C : World} (h : Upd S A B) (h' : Upd S B C) : Upd S A C := h.trans h'
theorem upd_b {S : Nat → Prop} {M : Nat} (hS : ∀ j, M ≤ j → S j) (W : World) (l : Nat) (o o' : Obj) (hl : M ≤ l) (_ : W.heap[l]? = some o) (_ : o.isCells = false) (_ : o.isWalk = false) : Upd S W (W.putObj l o') :=
  ⟨rfl, rfl, rfl, by simp [World.putObj], fun k _ hk => by
    have : k ≠ l := fun e => hk (hS k (by omega))
    simp only [World.putObj]
    rw [Array.getElem?_setIfInBounds_ne (fun e => this e.symm)]⟩
theorem boxed_kept {A B : World} {row : Option Nat} {b : Nat} {t : TypeId} {v : Value} (hs : Boxed A b t v) (hg : A.grownBy B row) (hr : ∀ r, row = some r → ∃ o : Obj, A.heap[r]? = some o ∧ o.isCells = false) : Boxed B b t v :=
  hs.kept hg (fun e => by
    obtain ⟨o, ho, hc⟩ := hr _ e.symm
    rw [show A.heap[b]? = _ from hs] at ho
    cases ho
    simp [Obj.isCells] at hc)
theorem grown_of_upd {W W' : World} (h : Upd (fun _ => False) W W') : W.grownBy W' none := ⟨h.os, h.tape, h.output, h.size, fun k hk _ => h.block k hk (fun h => h)⟩

/-- Where the loop's place lies. -/
def plAt (x : It9) (pb : Nat) (W : World) : Prop := W.cell? ⟨pb, 0, none⟩ = some (.int .i64 x.2.1) ∧ W.cell? ⟨pb, 1, none⟩ = some (.bool x.2.2)
theorem plAt_own (B : Nat) (x : It9) (pb : Nat) : OwnFrom B (fun (_ : Unit) W => plAt x pb W) := fun _ _ _ _ hs hg hr => ⟨cell_kept hs.1 hg (fun r e => (hr r e).2), cell_kept hs.2 hg (fun r e => (hr r e).2)⟩
theorem plAt_new (x : It9) (W : World) : plAt x W.heap.size (W.alloc (.cells #[.int .i64 x.2.1, .bool x.2.2] 36)) :=
  ⟨cell_of_block (heap_alloc_last W _ rfl) 0, cell_of_block (heap_alloc_last W _ rfl) 1⟩

/-- How many are dirty. -/
def cntD (l : List It9) : Nat := (l.filter fun x => x.2.2).length
theorem cntD_le (l : List It9) : cntD l ≤ l.length := List.length_filter_le _ _

set_option maxRecDepth 100000 in
set_option maxHeartbeats 4000000 in
theorem countLen {w : World} {b mb N : Nat} {v : Value} {ps : List (Int × Bool)} {slots : Nat} (h : IndexAt w b v mb N ps slots) (hpos : 0 < ps.length) :
    Calls Try.prog 60 #[.pointer (some ⟨b, 0, none⟩), .func (.func 61) #[] #[]] w fun e w' => e = .returned (.int .i64 (vis (spanL ps 0 4096) 0).length) ∧ Below w.heap.size w w' := by
  have h1 := (h.keep ((Upd.refl (fun _ => False) w).alloc (.cells #[.func (.func 61) #[] #[]] 110)) (fun h => h) (fun _ _ h => h)).keep ((Upd.refl (fun _ => False) _).alloc (.cells #[.int .i64 0] 3)) (fun h => h) (fun _ _ h => h)
  have hle := h.le
  have hgood : Hid (∀ k (h : k < (spanL ps 0 4096).length), (spanL ps 0 4096)[k] = (-1, false) ∨ 0 ≤ (spanL ps 0 4096)[k].1) := by
    intro k hk
    have : (spanL ps 0 4096)[k] = ps[k]'(by simp [spanL] at hk; omega) := by simp [spanL]
    rw [this]
    rcases h.good.each k (by simp [spanL] at hk; omega) with e | e
    · exact .inl e
    · exact .inr e.1
  have hsl : Hid ((spanL ps 0 4096).length ≤ 4096) := by show _ ≤ _; simp [spanL]; omega
  clear h
  refine (callsIn_wide (n := 4)).1 ?_
  refine callsIn_of_wp_marks Try.func60 rfl trivial ?_ rfl
  simp only [Try.ntmps60, List.size_toArray, List.length_cons, List.length_nil, Nat.reduceAdd, Nat.reduceSub, Array.replicate_succ, Array.replicate_zero, List.push_toArray, List.append_toArray, List.nil_append, List.cons_append]
  gi_wp2_with (refine ⟨trivial, ?_⟩; gi_at_call 20; refine (callsIn_wide.2 (all_in h1 0 4096 hpos)).mono ?_; rintro e w1 ⟨Bs, Bp, g, off, cap, rfl, hge, hBs, hBp, hg, hcs, hcp, hcl, hb1⟩)
  have hsz := hb1.size
  simp at hsz hge
  have hq0 : w1.heap[w.heap.size]? = some (.cells #[.func (.func 61) #[] #[]] 110) := (hb1.block _ (by simp; omega)).trans (((Upd.refl (fun _ => False) _).alloc _).block _ (by simp) (fun h => h) |>.trans (heap_alloc_last w _ rfl))
  have hq1 : w1.heap[w.heap.size + 1]? = some (.cells #[.int .i64 0] 3) := (hb1.block _ (by simp)).trans (heap_alloc_last _ _ (by simp))
  have bF : Boxed w1 w.heap.size 110 (.func (.func 61) #[] #[]) := hq0
  have bO : Boxed w1 (w.heap.size + 1) 3 (.int .i64 0) := hq1
  have hB0 : Below w.heap.size w w1 := below_upd (((Below.refl _ w).alloc (Nat.le_refl _) _).alloc (by simp) _) (Upd.of_below (S := fun _ => False) hb1) (Nat.le_refl _) (fun _ h => h.elim)
  have hlen : Hid ((vis (spanL ps 0 4096) 0).length ≤ 4096) := Nat.le_trans (visTo_len _ _ _) hsl.out
  refine wpIn_rangeFunc_ownH rfl (by omega) (gf := 56) (lb := #[.pointer (some ⟨Bs, 0, none⟩), .pointer (some ⟨Bp, 0, none⟩)]) rfl trivial (enters_of Try.func56 (by kernel_rfl) rfl)
    (it_stops _ (by omega) (fun j => w1.heap.size ≤ j ∨ j = w.heap.size + 1) Bs Bp g off cap (spanL ps 0 4096) 0 w1 hsl.out (by omega) hgood.out hg hBp hBs (by omega) (by omega) hcs hcp hcl) upd_t (fun W l o o' hl => upd_b (M := w1.heap.size) (fun j h => .inl h) W l o o' hl) (Below.refl _ _) (fun _ => rfl)
    (fun pre W => (Boxed W w.heap.size 110 (.func (.func 61) #[] #[]) ∧ Boxed W (w.heap.size + 1) 3 (.int .i64 (pre.length : Int))) ∧ Below w.heap.size w W)
    (fun _ _ _ => False)
    (OwnFrom.and (Own.from (I := fun (s : List It9) A => Boxed A w.heap.size 110 (.func (.func 61) #[] #[]) ∧ Boxed A (w.heap.size + 1) 3 (.int .i64 (s.length : Int))) (fun s A B row hs hg hr => ⟨boxed_kept hs.1 hg hr, boxed_kept hs.2 hg hr⟩) _) (ownFrom_below (Nat.le_refl _) (by omega)))
    (fun _ _ _ _ _ hs _ _ => hs)
    ⟨⟨bF, bO⟩, hB0⟩
    (fun x a' W => ∃ pb, a' = { tmps := #[.pointer (some ⟨b, 0, none⟩), .func (.func 61) #[] #[], undef, .pointer (some ⟨w.heap.size, 0, none⟩), .int .i64 0, .pointer (some ⟨w.heap.size + 1, 0, none⟩), undef, .pointer (some ⟨pb, 0, none⟩), .pointer (some ⟨b, 0, none⟩), .agg #[.int .i64 0, .int .i64 4096],
          .func (.func 56) #[] #[.pointer (some ⟨Bs, 0, none⟩), .pointer (some ⟨Bp, 0, none⟩)], .int .i64 (x.1 : Int), placeV x.2.1 x.2.2, undef, undef, undef, undef, undef, undef], defers := [] } ∧ plAt x pb W)
    (fun x a' => fun s X Y row hs hg hr => by obtain ⟨pb, e, hp⟩ := hs; exact ⟨pb, e, plAt_own _ x pb () X Y row hp hg hr⟩)
    ?assign ?body ?done ?stop
  case assign =>
    rintro l pre x W K ⟨⟨q0, q1⟩, hB⟩ hK
    gi_wp2
    have hu : Upd (fun j => w1.heap.size ≤ j ∨ j = w.heap.size + 1) W (W.alloc (.cells #[.int .i64 x.2.1, .bool x.2.2] 36)) := (Upd.refl _ _).alloc _
    refine hK _ _ (KeepsFrom.of_grownBy (World.grownBy_alloc W _ none) (fun j e => by cases e)) hu ⟨⟨boxed_kept q0 (World.grownBy_alloc W _ none) (fun r e => by cases e), boxed_kept q1 (World.grownBy_alloc W _ none) (fun r e => by cases e)⟩, hB.alloc hB.size _⟩ ⟨W.heap.size, rfl, plAt_new x W⟩
  case body =>
    rintro l pre x a' W hl _ ⟨⟨q0, q1⟩, hB⟩ ⟨pb, rfl, hp0, hp1⟩ hlt
    have hc := q1.cell
    have hf := q1.frozen
    have hcf := q0.cell
    have hn : (pre.length : Int) < 4096 := by have := hlen.out; omega
    have Q0 := Lib.hid q0
    have Q1 := Lib.hid q1
    have HB := Lib.hid hB
    clear q0 q1 hB
    gi_wp2_with ((first | (refine ⟨trivial, fun _ => by omega, ?_⟩) | (refine ⟨trivial, ?_⟩) | skip); gi_at_call 61; refine (CallsIn.inRound l (callsIn_wide.2 (len1_ok x.2.1 x.2.2 _))).mono ?_; rintro e W2 ⟨rfl, hu2⟩; have q0 := boxed_kept Q0.out (grown_of_upd hu2) (fun r e => by cases e); have q1 := boxed_kept Q1.out (grown_of_upd hu2) (fun r e => by cases e); have hc2 := q1.cell; have hf2 := q1.frozen)
    have hB2 := below_upd HB.out hu2 (Nat.le_refl _) (fun _ h => h.elim)
    rw [show ((pre.length : Int) + 1) = ((pre ++ [x]).length : Int) by simp]
    have hus := upd_setCell W2 (w.heap.size + 1) 0 (.int .i64 ((pre ++ [x]).length : Int))
    exact ⟨(KeepsFrom.of_grownBy (grown_of_upd hu2) (fun j e => by cases e)).trans ((KeepsOthers.setCell _ _ _).from _), (hu2.mono (S' := fun j => w1.heap.size ≤ j ∨ j = w.heap.size + 1) (fun _ _ h => h.elim)).trans (hus.mono (fun k _ hk => .inr hk)), ⟨q0.other (by omega) _, q1.set _⟩, below_upd hB2 hus (Nat.le_refl _) (fun j e => by omega)⟩
  case done =>
    rintro D ys W hD rfl ⟨⟨q0, q1⟩, hB⟩ hK
    have hc := q1.cell
    gi_wp2
    refine ⟨by simp, .inl ⟨_, _, rfl, run_takeDeferred hK, ?_⟩⟩
    exact ⟨_, results_tmp rfl _ _ _, rfl, hB.trans (belowK_b (w := w) (Nat.le_refl _) W D _ _ (by omega) hK rfl rfl)⟩
  case stop =>
    rintro D c pre W _ _ h _
    exact h.elim
set_option maxRecDepth 100000 in
set_option maxHeartbeats 4000000 in
theorem countDirty {w : World} {b mb N : Nat} {v : Value} {ps : List (Int × Bool)} {slots : Nat} (h : IndexAt w b v mb N ps slots) (hpos : 0 < ps.length) :
    Calls Try.prog 60 #[.pointer (some ⟨b, 0, none⟩), .func (.func 62) #[] #[]] w fun e w' => e = .returned (.int .i64 (cntD (vis (spanL ps 0 4096) 0) : Int)) ∧ Below w.heap.size w w' := by
  have h1 := (h.keep ((Upd.refl (fun _ => False) w).alloc (.cells #[.func (.func 62) #[] #[]] 110)) (fun h => h) (fun _ _ h => h)).keep ((Upd.refl (fun _ => False) _).alloc (.cells #[.int .i64 0] 3)) (fun h => h) (fun _ _ h => h)
  have hle := h.le
  have hgood : Hid (∀ k (h : k < (spanL ps 0 4096).length), (spanL ps 0 4096)[k] = (-1, false) ∨ 0 ≤ (spanL ps 0 4096)[k].1) := by
    intro k hk
    have : (spanL ps 0 4096)[k] = ps[k]'(by simp [spanL] at hk; omega) := by simp [spanL]
    rw [this]
    rcases h.good.each k (by simp [spanL] at hk; omega) with e | e
    · exact .inl e
    · exact .inr e.1
  have hsl : Hid ((spanL ps 0 4096).length ≤ 4096) := by show _ ≤ _; simp [spanL]; omega
  clear h
  refine (callsIn_wide (n := 4)).1 ?_
  refine callsIn_of_wp_marks Try.func60 rfl trivial ?_ rfl
  simp only [Try.ntmps60, List.size_toArray, List.length_cons, List.length_nil, Nat.reduceAdd, Nat.reduceSub, Array.replicate_succ, Array.replicate_zero, List.push_toArray, List.append_toArray, List.nil_append, List.cons_append]
  gi_wp2_with (refine ⟨trivial, ?_⟩; gi_at_call 20; refine (callsIn_wide.2 (all_in h1 0 4096 hpos)).mono ?_; rintro e w1 ⟨Bs, Bp, g, off, cap, rfl, hge, hBs, hBp, hg, hcs, hcp, hcl, hb1⟩)
  have hsz := hb1.size
  simp at hsz hge
  have hq0 : w1.heap[w.heap.size]? = some (.cells #[.func (.func 62) #[] #[]] 110) := (hb1.block _ (by simp; omega)).trans (((Upd.refl (fun _ => False) _).alloc _).block _ (by simp) (fun h => h) |>.trans (heap_alloc_last w _ rfl))
  have hq1 : w1.heap[w.heap.size + 1]? = some (.cells #[.int .i64 0] 3) := (hb1.block _ (by simp)).trans (heap_alloc_last _ _ (by simp))
  have bF : Boxed w1 w.heap.size 110 (.func (.func 62) #[] #[]) := hq0
  have bO : Boxed w1 (w.heap.size + 1) 3 (.int .i64 0) := hq1
  have hB0 : Below w.heap.size w w1 := below_upd (((Below.refl _ w).alloc (Nat.le_refl _) _).alloc (by simp) _) (Upd.of_below (S := fun _ => False) hb1) (Nat.le_refl _) (fun _ h => h.elim)
  have hlen : Hid ((vis (spanL ps 0 4096) 0).length ≤ 4096) := Nat.le_trans (visTo_len _ _ _) hsl.out
  refine wpIn_rangeFunc_ownH rfl (by omega) (gf := 56) (lb := #[.pointer (some ⟨Bs, 0, none⟩), .pointer (some ⟨Bp, 0, none⟩)]) rfl trivial (enters_of Try.func56 (by kernel_rfl) rfl)
    (it_stops _ (by omega) (fun j => w1.heap.size ≤ j ∨ j = w.heap.size + 1) Bs Bp g off cap (spanL ps 0 4096) 0 w1 hsl.out (by omega) hgood.out hg hBp hBs (by omega) (by omega) hcs hcp hcl) upd_t (fun W l o o' hl => upd_b (M := w1.heap.size) (fun j h => .inl h) W l o o' hl) (Below.refl _ _) (fun _ => rfl)
    (fun pre W => (Boxed W w.heap.size 110 (.func (.func 62) #[] #[]) ∧ Boxed W (w.heap.size + 1) 3 (.int .i64 (cntD pre : Int))) ∧ Below w.heap.size w W)
    (fun _ _ _ => False)
    (OwnFrom.and (Own.from (I := fun (s : List It9) A => Boxed A w.heap.size 110 (.func (.func 62) #[] #[]) ∧ Boxed A (w.heap.size + 1) 3 (.int .i64 (cntD s : Int))) (fun s A B row hs hg hr => ⟨boxed_kept hs.1 hg hr, boxed_kept hs.2 hg hr⟩) _) (ownFrom_below (Nat.le_refl _) (by omega)))
    (fun _ _ _ _ _ hs _ _ => hs)
    ⟨⟨bF, bO⟩, hB0⟩
    (fun x a' W => ∃ pb, a' = { tmps := #[.pointer (some ⟨b, 0, none⟩), .func (.func 62) #[] #[], undef, .pointer (some ⟨w.heap.size, 0, none⟩), .int .i64 0, .pointer (some ⟨w.heap.size + 1, 0, none⟩), undef, .pointer (some ⟨pb, 0, none⟩), .pointer (some ⟨b, 0, none⟩), .agg #[.int .i64 0, .int .i64 4096],
          .func (.func 56) #[] #[.pointer (some ⟨Bs, 0, none⟩), .pointer (some ⟨Bp, 0, none⟩)], .int .i64 (x.1 : Int), placeV x.2.1 x.2.2, undef, undef, undef, undef, undef, undef], defers := [] } ∧ plAt x pb W)
    (fun x a' => fun s X Y row hs hg hr => by obtain ⟨pb, e, hp⟩ := hs; exact ⟨pb, e, plAt_own _ x pb () X Y row hp hg hr⟩)
    ?assign ?body ?done ?stop
  case assign =>
    rintro l pre x W K ⟨⟨q0, q1⟩, hB⟩ hK
    gi_wp2
    have hu : Upd (fun j => w1.heap.size ≤ j ∨ j = w.heap.size + 1) W (W.alloc (.cells #[.int .i64 x.2.1, .bool x.2.2] 36)) := (Upd.refl _ _).alloc _
    refine hK _ _ (KeepsFrom.of_grownBy (World.grownBy_alloc W _ none) (fun j e => by cases e)) hu ⟨⟨boxed_kept q0 (World.grownBy_alloc W _ none) (fun r e => by cases e), boxed_kept q1 (World.grownBy_alloc W _ none) (fun r e => by cases e)⟩, hB.alloc hB.size _⟩ ⟨W.heap.size, rfl, plAt_new x W⟩
  case body =>
    rintro l pre ⟨x0, xs, d⟩ a' W hl _ ⟨⟨q0, q1⟩, hB⟩ ⟨pb, rfl, hp0, hp1⟩ hlt
    have hc := q1.cell
    have hf := q1.frozen
    have hcf := q0.cell
    have hn : (cntD pre : Int) < 4096 := by have := hlen.out; have := cntD_le pre; omega
    have Q0 := Lib.hid q0
    have Q1 := Lib.hid q1
    have HB := Lib.hid hB
    simp only at hp0 hp1
    clear q0 q1 hB
    cases d
    · gi_wp2_with ((first | (refine ⟨trivial, fun _ => by omega, ?_⟩) | (refine ⟨trivial, ?_⟩) | skip); gi_at_call 62; refine (CallsIn.inRound l (callsIn_wide.2 (dirty1_ok xs false _))).mono ?_; rintro e W2 ⟨rfl, hu2⟩)
      have q0 := boxed_kept Q0.out (grown_of_upd hu2) (fun r e => by cases e)
      have q1 := boxed_kept Q1.out (grown_of_upd hu2) (fun r e => by cases e)
      have hB2 := below_upd HB.out hu2 (Nat.le_refl _) (fun _ h => h.elim)
      have e1 : cntD (pre ++ [(x0, (xs, false))]) = cntD pre := by simp [cntD]
      refine ⟨KeepsFrom.of_grownBy (grown_of_upd hu2) (fun j e => by cases e), hu2.mono (S' := fun j => w1.heap.size ≤ j ∨ j = w.heap.size + 1) (fun _ _ h => h.elim), ⟨q0, ?_⟩, hB2⟩
      rw [e1]; exact q1
    · gi_wp2_with ((first | (refine ⟨trivial, fun _ => by omega, ?_⟩) | (refine ⟨trivial, ?_⟩) | skip); gi_at_call 62; refine (CallsIn.inRound l (callsIn_wide.2 (dirty1_ok xs true _))).mono ?_; rintro e W2 ⟨rfl, hu2⟩; have q0 := boxed_kept Q0.out (grown_of_upd hu2) (fun r e => by cases e); have q1 := boxed_kept Q1.out (grown_of_upd hu2) (fun r e => by cases e); have hc2 := q1.cell; have hf2 := q1.frozen)
      have hB2 := below_upd HB.out hu2 (Nat.le_refl _) (fun _ h => h.elim)
      have e1 : ((cntD pre : Int) + 1) = ((cntD (pre ++ [(x0, (xs, true))]) : Nat) : Int) := by simp [cntD]
      rw [e1]
      have hus := upd_setCell W2 (w.heap.size + 1) 0 (.int .i64 ((cntD (pre ++ [(x0, (xs, true))]) : Nat) : Int))
      exact ⟨(KeepsFrom.of_grownBy (grown_of_upd hu2) (fun j e => by cases e)).trans ((KeepsOthers.setCell _ _ _).from _), (hu2.mono (S' := fun j => w1.heap.size ≤ j ∨ j = w.heap.size + 1) (fun _ _ h => h.elim)).trans (hus.mono (fun k _ hk => .inr hk)), ⟨q0.other (by omega) _, q1.set _⟩, below_upd hB2 hus (Nat.le_refl _) (fun j e => by omega)⟩
  case done =>
    rintro D ys W hD rfl ⟨⟨q0, q1⟩, hB⟩ hK
    have hc := q1.cell
    gi_wp2
    refine ⟨by simp, .inl ⟨_, _, rfl, run_takeDeferred hK, ?_⟩⟩
    exact ⟨_, results_tmp rfl _ _ _, rfl, hB.trans (belowK_b (w := w) (Nat.le_refl _) W D _ _ (by omega) hK rfl rfl)⟩
  case stop =>
    rintro D c pre W _ _ h _
    exact h.elim

theorem len_any {w : World} {b mb N : Nat} {v : Value} {ps : List (Int × Bool)} {slots : Nat} (h : IndexAt w b v mb N ps slots) (hpos : 0 < ps.length) :
    Calls Try.prog 24 #[.pointer (some ⟨b, 0, none⟩)] w fun e w' => e = .returned (.int .i64 (vis (spanL ps 0 4096) 0).length) ∧ Below w.heap.size w w' := by
  have HC := Lib.hid (countLen h hpos)
  clear h
  go_enter Try.func24, Try.ntmps24
  go_wp2_with fail
  refine HC.out.mono ?_
  rintro e w1 ⟨rfl, hb⟩
  go_wp2
  go_ret
  exact ⟨rfl, hb⟩
theorem dirty_any {w : World} {b mb N : Nat} {v : Value} {ps : List (Int × Bool)} {slots : Nat} (h : IndexAt w b v mb N ps slots) (hpos : 0 < ps.length) :
    Calls Try.prog 25 #[.pointer (some ⟨b, 0, none⟩)] w fun e w' => e = .returned (.int .i64 (cntD (vis (spanL ps 0 4096) 0) : Int)) ∧ Below w.heap.size w w' := by
  have HC := Lib.hid (countDirty h hpos)
  clear h
  go_enter Try.func25, Try.ntmps25
  go_wp2_with fail
  refine HC.out.mono ?_
  rintro e w1 ⟨rfl, hb⟩
  go_wp2
  go_ret
  exact ⟨rfl, hb⟩
end Go.Proofs.Ytmgcekpfnkcmjaa
