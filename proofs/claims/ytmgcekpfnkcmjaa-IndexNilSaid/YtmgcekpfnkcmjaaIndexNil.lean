/- A nil index has nothing: for every call. -/
import Derived.Test.YtmgcekpfnkcmjaaNilCount
import Derived.Test.YtmgcekpfnkcmjaaAwake09
import Derived.Test.YtmgcekpfnkcmjaaOpen09
import Derived.Test.YtmgcekpfnkcmjaaRows
namespace Go.Proofs.Ytmgcekpfnkcmjaa
open Go Go.RowKit Go.Shelf
theorem undFn9 : ∃ a b c, Try.prog.underlying 43 = some (.func a b c) := ⟨_, _, _, Try.underlying43⟩
theorem equalIn_func_nil9 (w : World) (d : Nat) (fn : Fn) (xs ys : Array Value) : (Op.equalIn (d + 1) 43 (.func fn xs ys) .nilFunc).run Try.prog w = .ok false w := by
  obtain ⟨a, b, c, h⟩ := undFn9
  simp [Op.equalIn, run_underlying h]
theorem eql_func_nil9 (w : World) (fn : Fn) (xs ys : Array Value) : (binOp .eql 43 (.func fn xs ys) .nilFunc).run Try.prog w = .ok (.bool false) w := by
  simp only [binOp]
  simp [Op.equal, Op.maxDepth, equalIn_func_nil9 w 9999 fn xs ys]
end Go.Proofs.Ytmgcekpfnkcmjaa
namespace Go.Proofs.Ytmgcekpfnkcmjaa.indexNil
open Go Go.RowKit Go.Shelf Go.ChangeShapes Go.WideShapes Go.ChangeAt Go.Proofs.Ytmgcekpfnkcmjaa
attribute [local go_sem] Oper.semAt_some

set_option maxRecDepth 100000 in
set_option maxHeartbeats 4000000 in
theorem walk (o : Op9) (w : World) : Calls Try.prog 8 #[op9V o] w fun e w' => e = .returned (.bool true) ∧ Below w.heap.size w w' := by
  obtain ⟨ask, blk, slot, dd⟩ := o
  have qf := eql_func_nil9
  have hbx0 := cells4 w ⟨ask, blk, slot, dd⟩
  have hbx := (((Upd.refl (fun _ => False) (w.alloc (.cells #[.int .i64 ask, .int .i64 blk, .int .i64 slot, .bool dd] 32))).alloc (.cells #[.bool false] 4)).block _ (by simp) (fun h => h)).trans hbx0
  have HBX := Lib.hid hbx
  clear hbx hbx0
  refine (callsIn_wide (n := 4)).1 ?_
  refine callsIn_of_wp_marks Try.func8 rfl trivial ?_ rfl
  simp only [Try.ntmps8, List.size_toArray, List.length_cons, List.length_nil, Nat.reduceAdd, Nat.reduceSub, Array.replicate_succ, Array.replicate_zero, List.push_toArray, List.append_toArray, List.nil_append, List.cons_append]
  gi_wp2_with ((first | (refine ⟨trivial, fun _ => by omega, ?_⟩) | (refine ⟨trivial, ?_⟩) | skip); gi_at_call 20; refine (callsIn_wide.2 (all_nil 0 9 _)).mono ?_; rintro e w1 ⟨rfl, hb1⟩)
  have hsz := hb1.size
  simp at hsz
  have hB0 : Below w.heap.size w w1 := below_upd (((Below.refl _ w).alloc (Nat.le_refl _) _).alloc (by simp) _) (Upd.of_below (S := fun _ => False) hb1) (Nat.le_refl _) (fun _ h => h.elim)
  have hbx1 := (hb1.block _ (lt_of_block HBX.out)).trans HBX.out
  have bO : Boxed w1 (w.heap.size + 1) 4 (.bool false) := (hb1.block _ (by simp)).trans (heap_alloc_last _ _ (by simp))
  refine wpIn_rangeFunc_ownH rfl (by omega) (gf := 55) (lb := #[]) rfl trivial (enters_of Try.func55 (by kernel_rfl) rfl)
    (none_stops _ (fun j => w1.heap.size ≤ j) w1) upd_t (fun W l o o' hl => upd_b (M := w1.heap.size) (fun j h => h) W l o o' hl) (Below.refl _ _) (fun _ => rfl)
    (fun _ W => (W.cell? ⟨w.heap.size, 1, none⟩ = some (.int .i64 blk) ∧ W.cell? ⟨w.heap.size, 2, none⟩ = some (.int .i64 slot) ∧ Boxed W (w.heap.size + 1) 4 (.bool false)) ∧ Below w.heap.size w W)
    (fun _ _ _ => False)
    (OwnFrom.and (Own.from (I := fun (_ : List It9) A => A.cell? ⟨w.heap.size, 1, none⟩ = some (.int .i64 blk) ∧ A.cell? ⟨w.heap.size, 2, none⟩ = some (.int .i64 slot) ∧ Boxed A (w.heap.size + 1) 4 (.bool false)) (fun s A B row hs hg hr => ⟨cell_kept hs.1 hg hr, cell_kept hs.2.1 hg hr, boxed_kept hs.2.2 hg hr⟩) _) (ownFrom_below (Nat.le_refl _) (by omega)))
    (fun _ _ _ _ _ hs _ _ => hs)
    ⟨⟨cell_of_block hbx1 1, cell_of_block hbx1 2, bO⟩, hB0⟩
    (fun _ _ _ => True)
    (fun _ _ => fun _ _ _ _ _ _ _ => trivial)
    ?assign ?body ?done ?stop
  case assign =>
    intro l pre x W K hI hK
    gi_wp2
    exact hK _ _ (KeepsFrom.refl _ _) (Upd.refl _ _) hI trivial
  case body =>
    intro l pre x a' W hl _ _ _ hlt
    simp at hlt
  case done =>
    rintro D ys W hD rfl ⟨⟨q1, q2, q3⟩, hB⟩ hK
    rename_i hKK
    refine hKK _ _ (wpIn_wide.2 ?_)
    have hWz : w.heap.size + 1 < W.heap.size := q3.lt
    have hDz : D < W.heap.size := lt_of_block hK
    have Q3 := Lib.hid q3
    have HK := Lib.hid hK
    have HB := Lib.hid hB
    clear q3 hK hB hKK hb1 hbx1 bO hB0 HBX
    go_wp2_with fail
    refine (put_nil blk slot false _).mono ?_
    rintro e w2 ⟨rfl, hb2⟩
    have hu2 : Upd (fun _ => False) W (w2.alloc (.cells #[.int .i64 0, .bool false] 36)) := (Upd.of_below hb2).alloc _
    have hp2 := Lib.hid (heap_alloc_last w2 (.cells #[.int .i64 0, .bool false] 36) rfl)
    have z2 := hb2.size
    have c1 := (hu2.cellAt (b := w.heap.size) (o := 1) (by omega) (fun h => h)).trans q1
    have HU2 := Lib.hid hu2
    clear hb2 hu2
    go_wp2_with fail
    refine (get_nil blk _).mono ?_
    rintro e w3 ⟨rfl, hb3⟩
    have hu3 : Upd (fun _ => False) _ (w3.alloc (.cells #[.int .i64 0, .bool false] 36)) := (Upd.of_below hb3).alloc (.cells #[.int .i64 0, .bool false] 36)
    have hp3 := Lib.hid (heap_alloc_last w3 (.cells #[.int .i64 0, .bool false] 36) rfl)
    have z3 := hb3.size
    simp at z3
    have hp2' := Lib.hid ((hu3.block w2.heap.size (by simp) (fun h => h)).trans hp2.out)
    have hu3' := HU2.out.trans hu3
    have d1 := (hu3'.cellAt (b := w.heap.size) (o := 1) (by omega) (fun h => h)).trans q1
    have HU3 := Lib.hid hu3'
    clear hb3 hu3 hu3' hp2 HU2 c1
    go_wp2_with fail
    refine (drop_nil blk _).mono ?_
    rintro e w4 ⟨rfl, hb4⟩
    have hu4 : Upd (fun _ => False) _ (w4.alloc (.cells #[.int .i64 0, .bool false] 36)) := (Upd.of_below hb4).alloc (.cells #[.int .i64 0, .bool false] 36)
    have hp4 := Lib.hid (heap_alloc_last w4 (.cells #[.int .i64 0, .bool false] 36) rfl)
    have z4 := hb4.size
    simp at z4
    have hp2 := Lib.hid ((hu4.block w2.heap.size (by simp; omega) (fun h => h)).trans hp2'.out)
    have hp3' := Lib.hid ((hu4.block w3.heap.size (by simp) (fun h => h)).trans hp3.out)
    have hu4' := HU3.out.trans hu4
    have e2 := (hu4'.cellAt (b := w.heap.size) (o := 2) (by omega) (fun h => h)).trans q2
    have HU4 := Lib.hid hu4'
    clear hb4 hu4 hu4' hp2' hp3 HU3 d1
    go_wp2_with fail
    refine (at_nil slot _).mono ?_
    rintro e w5 ⟨rfl, rfl⟩
    have hu5 : Upd (fun _ => False) (w4.alloc (.cells #[.int .i64 0, .bool false] 36)) ((w4.alloc (.cells #[.int .i64 0, .bool false] 36)).alloc (.cells #[.int .i64 0, .bool false] 36)) := (Upd.refl _ _).alloc _
    have hq5 := (hu5.block w2.heap.size (by simp; omega) (fun h => h)).trans hp2.out
    have hr5 := (hu5.block w3.heap.size (by simp; omega) (fun h => h)).trans hp3'.out
    have hs5 := (hu5.block w4.heap.size (by simp) (fun h => h)).trans hp4.out
    have HU5 := Lib.hid (HU4.out.trans hu5)
    have f1 := (HU5.out.cellAt (b := w.heap.size) (o := 1) (by omega) (fun h => h)).trans q1
    have a0 := cell_of_block hq5 0
    have a1 := cell_of_block hq5 1
    have b0 := cell_of_block hr5 0
    have b1 := cell_of_block hr5 1
    have c0 := cell_of_block hs5 0
    have c1 := cell_of_block hs5 1
    simp at a0 a1 b0 b1 c0 c1
    clear hu5 hq5 hr5 hs5 hp2 hp3' hp4 HU4 e2
    go_wp2_with fail
    refine (clean_nil blk _).mono ?_
    rintro e w6 ⟨rfl, hb6⟩
    have hu6 := HU5.out.trans (Upd.of_below hb6)
    have HU6 := Lib.hid hu6
    clear hb6 hu6 HU5 a0 a1 b0 b1 c0 c1 f1
    go_wp2_with fail
    refine (nilLen _).mono ?_
    rintro e w7 ⟨rfl, hb7⟩
    have HU7 := Lib.hid (HU6.out.trans (Upd.of_below hb7))
    clear hb7 HU6
    go_wp2_with fail
    refine (nilDirty _).mono ?_
    rintro e w8 ⟨rfl, hb8⟩
    have HU8 := Lib.hid (HU7.out.trans (Upd.of_below hb8))
    clear hb8 HU7
    go_wp2_with fail
    refine (icopy_nil _).mono ?_
    rintro e w9 ⟨rfl, rfl⟩
    go_wp2_with fail
    refine (awake09 _).mono ?_
    rintro e w10 ⟨rfl, hb10⟩
    have hU10 := HU8.out.trans (Upd.of_below hb10)
    have hq10 : Boxed w10 (w.heap.size + 1) 4 (.bool false) := (hU10.block _ (by omega) (fun h => h)).trans Q3.out
    have r0 := hq10.cell
    have r1 := hq10.frozen
    have HQ10 := Lib.hid hq10
    have HU10 := Lib.hid hU10
    clear hb10 HU8 hq10 hU10
    go_wp2
    have g1 := HQ10.out.set (.bool true)
    have hus := upd_setCell w10 (w.heap.size + 1) 0 (.bool true)
    have K2 := (KeepsOthers.setCell w10 ⟨w.heap.size + 1, 0, none⟩ (.bool true)).same D _ ((HU10.out.block D hDz (fun h => h)).trans HK.out) rfl
    have c4 := cell_kept g1.cell (grownBy_putObj' _ D (.deferred none)) (fun r e => by cases e; exact ⟨_, K2, rfl⟩)
    refine ⟨by simp, .inl ⟨_, _, rfl, run_takeDeferred K2, ?_⟩⟩
    refine ⟨.bool true, ?_, rfl, ?_⟩
    · simp [results, Try.f8, go_sem, c4]
    · exact (below_upd (below_upd HB.out HU10.out (Nat.le_refl _) (fun _ h => h.elim)) hus (Nat.le_refl _) (fun j e => by omega)).trans (belowK_b (w := w) (Nat.le_refl _) _ D _ _ (by omega) K2 rfl rfl)
  case stop =>
    rintro D c pre W _ _ h _
    exact h.elim
theorem own : ownKnob Try.prog.godebug = none := by kernel_rfl

set_option maxRecDepth 100000 in
theorem lifted (os : Os) (started : os.Started) (H : Type) (enc : TypeId × Value → H) :
    ReturnsInHanded {} Try.checked os 8 .any (Rows.indexNilSpec.pre6 enc Try.prog Try.f8 Rows.indexNilRow.domain false) (Rows.indexNilSpec.post enc Try.prog Try.f8 false true false false) := by
  refine returnsInHanded_of_change (C := Try.checked) own started (by kernel_rfl) Try.func8
    (ChangeSpec.witness6 (enc := enc) (C := Try.checked) false ⟨#[], #[op9V ⟨0, 0, 0, false⟩], []⟩ 8 (by kernel_rfl) (by kernel_rfl) (by kernel_rfl) (by kernel_rfl)) ?_
  intro W base args ds gs before hval0 hW hcnd _
  have hval : ∀ (j : Nat) t v, Try.f8.params[j]? = some t → args[j]? = some v → Value.okWide Try.prog W .any base t v := hval0
  have hW' := hW
  obtain ⟨p, q, hA0, hV, rfl, hfz, hnd⟩ := hW
  have hA : DataW.TrodAll enc Try.prog W 0 (fun _ => true) true Try.f8.params.toList args.toList ds p := hA0
  rw [Try.params8] at hA hval
  obtain ⟨v0, vs0, d0, ds0, p0, q0, hargs, rfl, rfl, h0, r0⟩ := trodAll_cons hA
  obtain ⟨rfl, rfl, rfl⟩ := trodAll_nil r0
  obtain rfl : args = #[v0] := by cases args; simp_all
  obtain ⟨rfl, rfl⟩ := trodVars_none hV
  obtain ⟨o, rfl⟩ := open_op9 (hval 0 32 v0 rfl rfl) h0
  refine (walk o W).mono fun e W' ⟨he, hb⟩ => ?_
  subst he
  exact ⟨_, rfl, law_post (T := 4) (by kernel_rfl) (by kernel_rfl) rfl Try.underlying4 rfl rfl hW' hb⟩

theorem over : Rows.indexNilRow.holds Try.pinned (OpenSpec.ofChange Rows.indexNilSpec) :=
  OpenClaim.holds_of_wide 8 Try.f8 rfl rfl rfl rfl rfl rfl rfl ⟨rfl, rfl, rfl, rfl, rfl⟩ rfl rfl rfl rfl rfl (by kernel_rfl) Try.func8 (by kernel_rfl)
    (of_decide_eq_true (by kernel_rfl)) (by unfold Func.isWrapper; first | (rw [if_pos (by decide +kernel)]; kernel_rfl) | (rw [if_neg (by decide +kernel)]; exact ⟨rfl, rfl⟩))
    (fun os started H enc _ => lifted os started H enc)

/-- The statement. -/
theorem proved : Rows.IndexNilSaid :=
  over
end Go.Proofs.Ytmgcekpfnkcmjaa.indexNil
