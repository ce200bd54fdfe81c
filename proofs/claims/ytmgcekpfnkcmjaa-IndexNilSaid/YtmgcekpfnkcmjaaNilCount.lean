/- Len and Dirty of the nil index. -/
import Derived.Test.YtmgcekpfnkcmjaaIndexCount
namespace Go.Proofs.Ytmgcekpfnkcmjaa
open Go Go.RowKit Go.Shelf
attribute [local go_sem] Oper.semAt_some

set_option maxRecDepth 100000 in
set_option maxHeartbeats 4000000 in
theorem nilCountLen (w : World) :
    Calls Try.prog 60 #[.pointer none, .func (.func 61) #[] #[]] w fun e w' => e = .returned (.int .i64 0) ∧ Below w.heap.size w w' := by
  refine (callsIn_wide (n := 4)).1 ?_
  refine callsIn_of_wp_marks Try.func60 rfl trivial ?_ rfl
  simp only [Try.ntmps60, List.size_toArray, List.length_cons, List.length_nil, Nat.reduceAdd, Nat.reduceSub, Array.replicate_succ, Array.replicate_zero, List.push_toArray, List.append_toArray, List.nil_append, List.cons_append]
  gi_wp2_with (refine ⟨trivial, ?_⟩; gi_at_call 20; refine (callsIn_wide.2 (all_nil 0 4096 _)).mono ?_; rintro e w1 ⟨rfl, hb1⟩)
  have hsz := hb1.size
  simp at hsz
  have hq0 : w1.heap[w.heap.size]? = some (.cells #[.func (.func 61) #[] #[]] 110) := (hb1.block _ (by simp; omega)).trans (((Upd.refl (fun _ => False) _).alloc _).block _ (by simp) (fun h => h) |>.trans (heap_alloc_last w _ rfl))
  have hq1 : w1.heap[w.heap.size + 1]? = some (.cells #[.int .i64 0] 3) := (hb1.block _ (by simp)).trans (heap_alloc_last _ _ (by simp))
  have bF : Boxed w1 w.heap.size 110 (.func (.func 61) #[] #[]) := hq0
  have bO : Boxed w1 (w.heap.size + 1) 3 (.int .i64 0) := hq1
  have hB0 : Below w.heap.size w w1 := below_upd (((Below.refl _ w).alloc (Nat.le_refl _) _).alloc (by simp) _) (Upd.of_below (S := fun _ => False) hb1) (Nat.le_refl _) (fun _ h => h.elim)
  refine wpIn_rangeFunc_ownH rfl (by omega) (gf := 55) (lb := #[]) rfl trivial (enters_of Try.func55 (by kernel_rfl) rfl)
    (none_stops _ (fun j => w1.heap.size ≤ j ∨ j = w.heap.size + 1) w1) upd_t (fun W l o o' hl => upd_b (M := w1.heap.size) (fun j h => .inl h) W l o o' hl) (Below.refl _ _) (fun _ => rfl)
    (fun pre W => (Boxed W w.heap.size 110 (.func (.func 61) #[] #[]) ∧ Boxed W (w.heap.size + 1) 3 (.int .i64 (pre.length : Int))) ∧ Below w.heap.size w W)
    (fun _ _ _ => False)
    (OwnFrom.and (Own.from (I := fun (s : List It9) A => Boxed A w.heap.size 110 (.func (.func 61) #[] #[]) ∧ Boxed A (w.heap.size + 1) 3 (.int .i64 (s.length : Int))) (fun s A B row hs hg hr => ⟨boxed_kept hs.1 hg hr, boxed_kept hs.2 hg hr⟩) _) (ownFrom_below (Nat.le_refl _) (by omega)))
    (fun _ _ _ _ _ hs _ _ => hs)
    ⟨⟨bF, bO⟩, hB0⟩
    (fun x a' W => ∃ pb, a' = { tmps := #[.pointer none, .func (.func 61) #[] #[], undef, .pointer (some ⟨w.heap.size, 0, none⟩), .int .i64 0, .pointer (some ⟨w.heap.size + 1, 0, none⟩), undef, .pointer (some ⟨pb, 0, none⟩), .pointer none, .agg #[.int .i64 0, .int .i64 4096],
          .func (.func 55) #[] #[], .int .i64 (x.1 : Int), placeV x.2.1 x.2.2, undef, undef, undef, undef, undef, undef], defers := [] } ∧ plAt x pb W)
    (fun x a' => fun s X Y row hs hg hr => by obtain ⟨pb, e, hp⟩ := hs; exact ⟨pb, e, plAt_own _ x pb () X Y row hp hg hr⟩)
    ?assign ?body ?done ?stop
  case assign =>
    rintro l pre x W K ⟨⟨q0, q1⟩, hB⟩ hK
    gi_wp2
    have hu : Upd (fun j => w1.heap.size ≤ j ∨ j = w.heap.size + 1) W (W.alloc (.cells #[.int .i64 x.2.1, .bool x.2.2] 36)) := (Upd.refl _ _).alloc _
    refine hK _ _ (KeepsFrom.of_grownBy (World.grownBy_alloc W _ none) (fun j e => by cases e)) hu ⟨⟨boxed_kept q0 (World.grownBy_alloc W _ none) (fun r e => by cases e), boxed_kept q1 (World.grownBy_alloc W _ none) (fun r e => by cases e)⟩, hB.alloc hB.size _⟩ ⟨W.heap.size, rfl, plAt_new x W⟩
  case body =>
    rintro l pre x a' W hl _ _ _ hlt
    simp at hlt
  case done =>
    rintro D ys W hD rfl ⟨⟨q0, q1⟩, hB⟩ hK
    have hc := q1.cell
    gi_wp2
    refine ⟨by simp, .inl ⟨_, _, rfl, run_takeDeferred hK, ?_⟩⟩
    exact ⟨_, results_tmp rfl _ _ _, rfl, hB.trans (belowK_b (w := w) (Nat.le_refl _) W D _ _ (by omega) hK rfl rfl)⟩
  case stop =>
    rintro D c pre W _ _ h _
    exact h.elim
set_option maxRecDepth 100000 in
set_option maxHeartbeats 4000000 in
theorem nilCountDirty (w : World) :
    Calls Try.prog 60 #[.pointer none, .func (.func 62) #[] #[]] w fun e w' => e = .returned (.int .i64 0) ∧ Below w.heap.size w w' := by
  refine (callsIn_wide (n := 4)).1 ?_
  refine callsIn_of_wp_marks Try.func60 rfl trivial ?_ rfl
  simp only [Try.ntmps60, List.size_toArray, List.length_cons, List.length_nil, Nat.reduceAdd, Nat.reduceSub, Array.replicate_succ, Array.replicate_zero, List.push_toArray, List.append_toArray, List.nil_append, List.cons_append]
  gi_wp2_with (refine ⟨trivial, ?_⟩; gi_at_call 20; refine (callsIn_wide.2 (all_nil 0 4096 _)).mono ?_; rintro e w1 ⟨rfl, hb1⟩)
  have hsz := hb1.size
  simp at hsz
  have hq0 : w1.heap[w.heap.size]? = some (.cells #[.func (.func 62) #[] #[]] 110) := (hb1.block _ (by simp; omega)).trans (((Upd.refl (fun _ => False) _).alloc _).block _ (by simp) (fun h => h) |>.trans (heap_alloc_last w _ rfl))
  have hq1 : w1.heap[w.heap.size + 1]? = some (.cells #[.int .i64 0] 3) := (hb1.block _ (by simp)).trans (heap_alloc_last _ _ (by simp))
  have bF : Boxed w1 w.heap.size 110 (.func (.func 62) #[] #[]) := hq0
  have bO : Boxed w1 (w.heap.size + 1) 3 (.int .i64 0) := hq1
  have hB0 : Below w.heap.size w w1 := below_upd (((Below.refl _ w).alloc (Nat.le_refl _) _).alloc (by simp) _) (Upd.of_below (S := fun _ => False) hb1) (Nat.le_refl _) (fun _ h => h.elim)
  refine wpIn_rangeFunc_ownH rfl (by omega) (gf := 55) (lb := #[]) rfl trivial (enters_of Try.func55 (by kernel_rfl) rfl)
    (none_stops _ (fun j => w1.heap.size ≤ j ∨ j = w.heap.size + 1) w1) upd_t (fun W l o o' hl => upd_b (M := w1.heap.size) (fun j h => .inl h) W l o o' hl) (Below.refl _ _) (fun _ => rfl)
    (fun pre W => (Boxed W w.heap.size 110 (.func (.func 62) #[] #[]) ∧ Boxed W (w.heap.size + 1) 3 (.int .i64 (pre.length : Int))) ∧ Below w.heap.size w W)
    (fun _ _ _ => False)
    (OwnFrom.and (Own.from (I := fun (s : List It9) A => Boxed A w.heap.size 110 (.func (.func 62) #[] #[]) ∧ Boxed A (w.heap.size + 1) 3 (.int .i64 (s.length : Int))) (fun s A B row hs hg hr => ⟨boxed_kept hs.1 hg hr, boxed_kept hs.2 hg hr⟩) _) (ownFrom_below (Nat.le_refl _) (by omega)))
    (fun _ _ _ _ _ hs _ _ => hs)
    ⟨⟨bF, bO⟩, hB0⟩
    (fun x a' W => ∃ pb, a' = { tmps := #[.pointer none, .func (.func 62) #[] #[], undef, .pointer (some ⟨w.heap.size, 0, none⟩), .int .i64 0, .pointer (some ⟨w.heap.size + 1, 0, none⟩), undef, .pointer (some ⟨pb, 0, none⟩), .pointer none, .agg #[.int .i64 0, .int .i64 4096],
          .func (.func 55) #[] #[], .int .i64 (x.1 : Int), placeV x.2.1 x.2.2, undef, undef, undef, undef, undef, undef], defers := [] } ∧ plAt x pb W)
    (fun x a' => fun s X Y row hs hg hr => by obtain ⟨pb, e, hp⟩ := hs; exact ⟨pb, e, plAt_own _ x pb () X Y row hp hg hr⟩)
    ?assign ?body ?done ?stop
  case assign =>
    rintro l pre x W K ⟨⟨q0, q1⟩, hB⟩ hK
    gi_wp2
    have hu : Upd (fun j => w1.heap.size ≤ j ∨ j = w.heap.size + 1) W (W.alloc (.cells #[.int .i64 x.2.1, .bool x.2.2] 36)) := (Upd.refl _ _).alloc _
    refine hK _ _ (KeepsFrom.of_grownBy (World.grownBy_alloc W _ none) (fun j e => by cases e)) hu ⟨⟨boxed_kept q0 (World.grownBy_alloc W _ none) (fun r e => by cases e), boxed_kept q1 (World.grownBy_alloc W _ none) (fun r e => by cases e)⟩, hB.alloc hB.size _⟩ ⟨W.heap.size, rfl, plAt_new x W⟩
  case body =>
    rintro l pre x a' W hl _ _ _ hlt
    simp at hlt
  case done =>
    rintro D ys W hD rfl ⟨⟨q0, q1⟩, hB⟩ hK
    have hc := q1.cell
    gi_wp2
    refine ⟨by simp, .inl ⟨_, _, rfl, run_takeDeferred hK, ?_⟩⟩
    exact ⟨_, results_tmp rfl _ _ _, rfl, hB.trans (belowK_b (w := w) (Nat.le_refl _) W D _ _ (by omega) hK rfl rfl)⟩
  case stop =>
    rintro D c pre W _ _ h _
    exact h.elim

theorem nilLen (w : World) : Calls Try.prog 24 #[.pointer none] w fun e w' => e = .returned (.int .i64 0) ∧ Below w.heap.size w w' := by
  go_enter Try.func24, Try.ntmps24
  go_wp2_with fail
  refine (nilCountLen _).mono ?_
  rintro e w1 ⟨rfl, hb⟩
  go_wp2
  go_ret
  exact ⟨rfl, hb⟩
theorem nilDirty (w : World) : Calls Try.prog 25 #[.pointer none] w fun e w' => e = .returned (.int .i64 0) ∧ Below w.heap.size w w' := by
  go_enter Try.func25, Try.ntmps25
  go_wp2_with fail
  refine (nilCountDirty _).mono ?_
  rintro e w1 ⟨rfl, hb⟩
  go_wp2
  go_ret
  exact ⟨rfl, hb⟩
end Go.Proofs.Ytmgcekpfnkcmjaa
