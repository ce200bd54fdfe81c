/- The iterator over the slots in a state: its contract; who ranges over it. -/
import Derived.RangeFuncNested
import Derived.RangeFuncBound
import Derived.RangeFuncCalls
import Derived.RangeFuncLeaves
import Derived.RangeFuncBox
import Derived.Shelf.Abstract
import Derived.WalkKit
import Derived.OwnWalkIn
import Derived.TacticsInMore
import Derived.LoopNIn
import Derived.LoopIn
import Derived.Maps.AppendAt
import Derived.Test.YtolhlfahoooliaaDoorSlots2
namespace Go.Proofs.YtolhlfahoooliaaDoor
open Go Go.RowKit Go.Shelf
attribute [local go_sem] Oper.semAt_some

/-- The slots in a state, of the first k. -/
def posTo (l : List Int) (st : Int) (k : Nat) : List Nat := (List.range k).filter fun i => l[i]?.getD 0 == st
abbrev pos (l : List Int) (st : Int) : List Nat := posTo l st l.length
theorem posTo_hit {l : List Int} {st : Int} {k : Nat} (h : (l[k]?.getD 0 == st) = true) : posTo l st (k + 1) = posTo l st k ++ [k] := by simp [posTo, List.range_succ, h]
theorem posTo_miss {l : List Int} {st : Int} {k : Nat} (h : (l[k]?.getD 0 == st) = false) : posTo l st (k + 1) = posTo l st k := by simp [posTo, List.range_succ, h]
theorem posTo_len (l : List Int) (st : Int) (k : Nat) : (posTo l st k).length ≤ k := by have := List.length_filter_le (fun i => l[i]?.getD 0 == st) (List.range k); simpa [posTo] using this
theorem posTo_prefix (l : List Int) (st : Int) {k m : Nat} (h : k ≤ m) : posTo l st k <+: posTo l st m := by
  induction m with
  | zero => obtain rfl : k = 0 := by omega
            exact List.prefix_rfl
  | succ m ih =>
    by_cases hk : k = m + 1
    · subst hk; exact List.prefix_rfl
    · refine (ih (by omega)).trans ?_
      by_cases hb : (l[m]?.getD 0 == st) = true
      · rw [posTo_hit hb]; exact List.prefix_append _ _
      · rw [posTo_miss (by simpa using hb)]; exact List.prefix_rfl
theorem posTo_strict (l : List Int) (st : Int) {k m : Nat} (h : k < m) (hb : (l[k]?.getD 0 == st) = true) : (posTo l st k).length < (posTo l st m).length := by
  have h1 := (posTo_prefix l st (show k + 1 ≤ m by omega)).length_le
  rw [posTo_hit hb] at h1
  simp at h1; omega
/-- .. as ints. -/
def nats (l : List Nat) : List Int := l.map Int.ofNat

set_option maxRecDepth 100000 in
set_option maxHeartbeats 2000000 in
theorem it_in (F : Fence) (n : Nat) (h7 : F.fn 29) (hro : F.round = none) (hn : 1 ≤ n) (S : Nat → Prop) (l Bs Bt b off cap : Nat) (zs : List Int) (st : Int) (hle : zs.length ≤ 1024) (hb : ¬ S b) (hBt : ¬ S Bt) (J Jx : List Nat → World → Prop)
    (hY : ∀ pre (x : Nat) W, J pre W → pre.length < (pos zs st).length → YieldAt F (n - 1) Tryd.prog l #[.int .i64 (x : Int)] W fun e W' =>
      (e = .returned (.bool true) ∧ J (pre ++ [x]) W' ∧ Upd S W W') ∨ (e = .returned (.bool false) ∧ Jx (pre ++ [x]) W'))
    (W : World) (hbW : b < W.heap.size) (hBtW : Bt < W.heap.size) (hBs : W.cell? ⟨Bs, 0, none⟩ = some (.slice (some ⟨b, off, none⟩) zs.length cap)) (hct : W.cell? ⟨Bt, 0, none⟩ = some (.int .i64 st))
    (hc : ∀ j, j < zs.length → W.cell? ⟨b, off + j, none⟩ = some (.int .i64 (zs[j]?.getD 0))) (h0 : J [] W) :
    CallsIn F n Tryd.prog 29 #[.func (.yield l) #[] #[], .pointer (some ⟨Bs, 0, none⟩), .pointer (some ⟨Bt, 0, none⟩)] W fun e W' => (∃ v, e = .returned v) ∧
      ((∃ ys, ys = pos zs st ∧ J ys W') ∨ (∃ pre, pre <+: pos zs st ∧ Jx pre W')) := by
  refine callsIn_of_wp Tryd.func29 rfl h7 ?_ hro
  simp only [Tryd.ntmps29, List.size_toArray, List.length_cons, List.length_nil, Nat.reduceAdd, Nat.reduceSub, Array.replicate_succ, Array.replicate_zero, List.push_toArray, List.append_toArray, List.nil_append, List.cons_append]
  gi_wp2
  gi_loopw [8] (fun i wr => ∃ k : Nat, k ≤ zs.length ∧ i = .int .i64 k ∧ J (posTo zs st k) wr ∧ Upd S W wr)
    (fun i _ => zs.length - (intOf i).toNat)
  case atStart => exact ⟨0, Nat.zero_le _, rfl, h0, Upd.refl _ _⟩
  case round =>
    obtain ⟨k, hk, rfl, hJs, hnx⟩ := hrel
    have hct' : wr.cell? ⟨Bt, 0, none⟩ = some (.int .i64 st) := (hnx.cellAt hBtW hBt).trans hct
    by_cases hlt : k < zs.length
    · have hcx' : wr.cell? ⟨b, off + k, none⟩ = some (.int .i64 (zs[k]?.getD 0)) := (hnx.cellAt hbW hb).trans (hc k hlt)
      have hgd : Hid (zs[k]?.getD 0 = zs[k]) := by show _ = _; simp [hlt]
      by_cases hq : (zs[k] == st) = true
      · have hqq : Hid ((zs[k]?.getD 0 == st) = true) := by rw [hgd.out]; exact hq
        obtain ⟨fn, tmps, assign, body, hy, hR⟩ := hY _ k wr hJs (posTo_strict zs st hlt hqq.out)
        gi_wp2
        refine hR.mono ?_
        rintro e W3 (⟨rfl, hJ3, hk3⟩ | ⟨rfl, hJx3⟩)
        · gi_wp2
          go_roundw
          case rel => exact ⟨k + 1, by omega, by simp, by rw [posTo_hit hqq.out]; exact hJ3, hnx.trans hk3⟩
          case measure => simp [intOf]; omega
        · gi_wp2
          refine bodyPost_ret (results_none rfl _ _ _) rfl ?_
          exact ⟨⟨_, rfl⟩, .inr ⟨_, by rw [← posTo_hit hqq.out]; exact posTo_prefix zs st (by omega), hJx3⟩⟩
      · have hq' : (zs[k] == st) = false := by simpa using hq
        have hqq : Hid ((zs[k]?.getD 0 == st) = false) := by rw [hgd.out]; exact hq'
        clear hq
        gi_wp2
        refine ⟨fun _ h => (by cases h), ?_⟩
        gi_wp2
        go_roundw
        case rel => exact ⟨k + 1, by omega, by simp, by rw [posTo_miss hqq.out]; exact hJs, hnx⟩
        case measure => simp [intOf]; omega
    · obtain rfl : k = zs.length := by omega
      gi_wp2
      go_end0
      exact ⟨⟨_, rfl⟩, .inl ⟨_, rfl, hJs⟩⟩

theorem it_stops (F : Fence) (n : Nat) (h7 : F.fn 29) (hro : F.round = none) (hn : 1 ≤ n) (S : Nat → Prop) (Bs Bt b off cap : Nat) (zs : List Int) (st : Int) (w : World) (hle : zs.length ≤ 1024)
    (hb : b < w.heap.size) (hBt : Bt < w.heap.size) (hBs : Bs < w.heap.size) (hbS : ¬ S b) (hBtS : ¬ S Bt)
    (hcs : w.cell? ⟨Bs, 0, none⟩ = some (.slice (some ⟨b, off, none⟩) zs.length cap)) (hct : w.cell? ⟨Bt, 0, none⟩ = some (.int .i64 st))
    (hc : ∀ j, j < zs.length → w.cell? ⟨b, off + j, none⟩ = some (.int .i64 (zs[j]?.getD 0))) :
    SeqStopsK F n Tryd.prog 29 #[.pointer (some ⟨Bs, 0, none⟩), .pointer (some ⟨Bt, 0, none⟩)] (fun x : Nat => #[Value.int .i64 (x : Int)]) (Upd S) (fun ys => ys = pos zs st) (fun pre => pre <+: pos zs st) (pos zs st).length w := fun l J Jx W hW _ _ hY h0 =>
  it_in F n h7 hro hn S l Bs Bt b off cap zs st hle hbS hBtS J Jx hY W (Nat.lt_of_lt_of_le hb hW.size) (Nat.lt_of_lt_of_le hBt hW.size) ((hW.cell (p := ⟨Bs, 0, none⟩) hBs).trans hcs) ((hW.cell (p := ⟨Bt, 0, none⟩) hBt).trans hct) (fun j hj => (hW.cell (p := ⟨b, off + j, none⟩) hb).trans (hc j hj)) h0

set_option maxRecDepth 100000 in
theorem none_stops (F : Fence) (n : Nat) (h7 : F.fn 28) (hro : F.round = none) (S : Nat → Prop) (w : World) :
    SeqStopsK F n Tryd.prog 28 #[] (fun x : Nat => #[Value.int .i64 (x : Int)]) (Upd S) (fun ys => ys = []) (fun pre => pre <+: []) 0 w := fun l J Jx W hW _ _ hY h0 => by
  refine callsIn_of_wp Tryd.func28 rfl h7 ?_ hro
  simp only [Tryd.ntmps28, List.size_toArray, List.length_cons, List.length_nil, Nat.reduceAdd, Nat.reduceSub, Array.replicate_succ, Array.replicate_zero, List.push_toArray, List.append_toArray, List.nil_append, List.cons_append]
  gi_wp2
  go_end0
  exact ⟨⟨_, rfl⟩, .inl h0⟩

theorem boxed_kept {A B : World} {row : Option Nat} {b : Nat} {t : TypeId} {v : Value} (hs : Boxed A b t v) (hg : A.grownBy B row) (hr : ∀ r, row = some r → ∃ o : Obj, A.heap[r]? = some o ∧ o.isCells = false) : Boxed B b t v :=
  hs.kept hg (fun e => by
    obtain ⟨o, ho, hc⟩ := hr _ e.symm
    rw [show A.heap[b]? = _ from hs] at ho
    cases ho
    simp [Obj.isCells] at hc)
theorem upd_t {S : Nat → Prop} {A B C : World} (h : Upd S A B) (h' : Upd S B C) : Upd S A C := h.trans h'
theorem upd_b {S : Nat → Prop} {M : Nat} (hS : ∀ j, M ≤ j → S j) (W : World) (l : Nat) (o o' : Obj) (hl : M ≤ l) (_ : W.heap[l]? = some o) (_ : o.isCells = false) (_ : o.isWalk = false) : Upd S W (W.putObj l o') :=
  ⟨rfl, rfl, rfl, by simp [World.putObj], fun k _ hk => by
    have : k ≠ l := fun e => hk (hS k (by omega))
    simp only [World.putObj]
    rw [Array.getElem?_setIfInBounds_ne (fun e => this e.symm)]⟩

theorem all_nil (st : Int) (w : World) : Calls Tryd.prog 26 #[.pointer none, .int .i64 st] w fun e w' => e = .returned (.func (.func 28) #[] #[]) ∧ w' = w.alloc (.cells #[.int .i64 st] 3) := by
  go_enter Tryd.func26, Tryd.ntmps26
  go_wp2
  go_ret
  exact ⟨rfl, rfl⟩

theorem all_any {w : World} {b : Nat} {v : Value} {l : List Int} (h : SlotsAt 49 w b v l) (st : Int) (hpos : 0 < l.length) :
    Calls Tryd.prog 26 #[ptrAt b, .int .i64 st] w fun e w' => ∃ Bs Bt g off cap, e = .returned (.func (.func 29) #[] #[.pointer (some ⟨Bs, 0, none⟩), .pointer (some ⟨Bt, 0, none⟩)]) ∧
      (w.heap.size ≤ Bt ∧ w.heap.size ≤ g) ∧ Bs < w'.heap.size ∧ Bt < w'.heap.size ∧ g < w'.heap.size ∧ w'.cell? ⟨Bs, 0, none⟩ = some (.slice (some ⟨g, off, none⟩) l.length cap) ∧ w'.cell? ⟨Bt, 0, none⟩ = some (.int .i64 st) ∧
      (∀ j, j < l.length → w'.cell? ⟨g, off + j, none⟩ = some (.int .i64 (l[j]?.getD 0))) ∧ Below w.heap.size w w' := by
  have hu0 : Upd (fun _ => False) w (w.alloc (.cells #[.int .i64 st] 3)) := (Upd.refl _ _).alloc _
  have h' := h.new hu0
  have hc0 := cell_of_block h'.str 0
  simp at hc0
  have HR := Lib.hid h'.sl.rd
  have hle := h.le
  clear h h'
  go_enter Tryd.func26, Tryd.ntmps26
  go_wp2_with fail
  refine (clone_any HR.out (by omega)).mono ?_
  rintro e w1 ⟨v', rfl, hs1, hf1, hb1⟩
  obtain ⟨g, off, cap, cur, rfl, hg, _, hcc⟩ := hs1.at hpos
  have hlt := lt_of_block hg
  go_wp2
  go_ret
  have hsz := hb1.size
  simp at hsz
  have hbox : w1.cell? ⟨w.heap.size, 0, none⟩ = some (.int .i64 st) := (hb1.cell (p := ⟨w.heap.size, 0, none⟩) (by simp)).trans (by rw [cell_of_block (heap_alloc_last _ _ rfl)]; simp)
  have hA := (Upd.refl (fun _ => False) w1).alloc (.cells #[.slice (some ⟨g, off, none⟩) l.length cap] 34)
  refine ⟨w1.heap.size, w.heap.size, g, off, cap, rfl, ⟨Nat.le_refl _, by have := hf1 g rfl; simp at this; omega⟩, by simp, by simp; omega, by simp; omega, ?_, ?_, fun j hj => ?_, ?_⟩
  · rw [cell_of_block (heap_alloc_last _ _ rfl)]; simp
  · exact (hA.cellAt (by omega) (fun h => h)).trans hbox
  · refine (hA.cellAt hlt (fun h => h)).trans ?_
    rw [cell_of_block hg, hcc j _ (get_ints hj)]; simp [hj]
  · exact below_upd (below_upd (Below.refl _ w) (Upd.new hu0 (Upd.of_below (S := fun _ => False) hb1) (fun _ _ h => h)) (Nat.le_refl _) (fun _ h => h.elim)) hA (Nat.le_refl _) (fun _ h => h.elim)

set_option maxRecDepth 100000 in
set_option maxHeartbeats 2000000 in
/-- THE COUNT. -/
theorem count_any {w : World} {b : Nat} {v : Value} {l : List Int} (h : SlotsAt 49 w b v l) (st : Int) (hpos : 0 < l.length) :
    Calls Tryd.prog 18 #[ptrAt b, .int .i64 st] w fun e w' => e = .returned (.int .i64 (pos l st).length) ∧ Below w.heap.size w w' := by
  have h1 := h.new ((Upd.refl (fun _ => False) w).alloc (.cells #[.int .i64 0] 3))
  have hlen : Hid ((pos l st).length ≤ 1024) := by have h1 := posTo_len l st l.length; have h2 := h.le; exact Nat.le_trans h1 h2
  have hle := h.le
  clear h
  refine (callsIn_wide (n := 3)).1 ?_
  refine callsIn_of_wp_marks Tryd.func18 rfl trivial ?_ rfl
  simp only [Tryd.ntmps18, List.size_toArray, List.length_cons, List.length_nil, Nat.reduceAdd, Nat.reduceSub, Array.replicate_succ, Array.replicate_zero, List.push_toArray, List.append_toArray, List.nil_append, List.cons_append]
  gi_wp2_with (refine ⟨trivial, ?_⟩; gi_at_call 26; refine (callsIn_wide.2 (all_any h1 st hpos)).mono ?_; rintro e w1 ⟨Bs, Bt, g, off, cap, rfl, hge, hBs, hBt, hg, hcs, hct, hcl, hb1⟩)
  have bO0 : Boxed (w.alloc (.cells #[.int .i64 0] 3)) w.heap.size 3 (.int .i64 0) := Boxed.new w _ _
  have bO : Boxed w1 w.heap.size 3 (.int .i64 0) := (hb1.block _ (by simp)).trans bO0
  have hsz := hb1.size
  simp at hsz
  have hB0 : Below w.heap.size w w1 := below_upd ((Below.refl _ w).alloc (Nat.le_refl _) _) (Upd.of_below (S := fun _ => False) hb1) (Nat.le_refl _) (fun _ h => h.elim)
  refine wpIn_rangeFunc_ownF rfl (by omega) (gf := 29) (lb := #[.pointer (some ⟨Bs, 0, none⟩), .pointer (some ⟨Bt, 0, none⟩)]) rfl trivial (enters_of Tryd.func29 (by kernel_rfl) rfl)
    (it_stops Fence.wide _ trivial rfl (by omega) (fun j => w1.heap.size ≤ j ∨ j = w.heap.size) Bs Bt g off cap l st w1 hle hg hBt hBs (by simp at hge; omega) (by simp at hge; omega) hcs hct hcl) upd_t (fun W l o o' hl => upd_b (M := w1.heap.size) (fun j h => .inl h) W l o o' hl) (Below.refl _ _) (fun _ => rfl)
    (fun pre W => Boxed W w.heap.size 3 (.int .i64 pre.length) ∧ Below w.heap.size w W)
    (fun _ _ _ => False)
    (OwnFrom.and (Own.from (I := fun (s : List Nat) A => Boxed A w.heap.size 3 (.int .i64 s.length)) (fun s A B row hs hg hr => boxed_kept hs hg hr) _) (ownFrom_below (Nat.le_refl _) (by omega)))
    (fun _ _ _ _ _ hs _ _ => hs)
    ⟨bO, hB0⟩
    (fun x => { tmps := #[ptrAt b, Value.int IntKind.i64 st, undef, undef, Value.int IntKind.i64 0,
          Value.pointer (some { block := w.heap.size, off := 0 }), ptrAt b, Value.int IntKind.i64 st,
          Value.func (Fn.func 29) #[]
            #[Value.pointer (some { block := Bs, off := 0 }), Value.pointer (some { block := Bt, off := 0 })],
          .int .i64 x, undef, undef, undef], defers := [] }) ?assign ?body ?done ?stop
  case assign =>
    intro l x W K hK
    gi_wp2
    simpa using hK
  case body =>
    rintro l pre x W ⟨hv, hB⟩ hlt
    have hc := hv.cell
    have hf := hv.frozen
    have hn : (pre.length : Int) < 1024 := by have := hlen.out; omega
    gi_wp2
    rw [show ((pre.length : Int) + 1) = ((pre ++ [x]).length : Int) by simp]
    exact ⟨KeepsOthers.setCell _ _ _, (upd_setCell W _ _ _).mono (fun k _ hk => .inr hk), hv.set _, hB.setCell (p := ⟨w.heap.size, 0, none⟩) (Nat.le_refl _) _⟩
  case done =>
    rintro D ys W hD rfl ⟨hv, hB⟩ hK
    have hc := hv.cell
    gi_wp2
    refine ⟨by simp, .inl ⟨_, _, rfl, run_takeDeferred hK, ?_⟩⟩
    exact ⟨_, results_tmp rfl _ _ _, rfl, hB.trans (belowK_b (w := w) (Nat.le_refl _) W D _ _ (by omega) hK rfl rfl)⟩
  case stop =>
    rintro D c pre W _ _ h _
    exact h.elim

theorem undFn : ∃ a b c, Tryd.prog.underlying 51 = some (.func a b c) := ⟨_, _, _, Tryd.underlying51⟩
theorem equalIn_func_nil (w : World) (d : Nat) (fn : Fn) (xs ys : Array Value) : (Op.equalIn (d + 1) 51 (.func fn xs ys) .nilFunc).run Tryd.prog w = .ok false w := by
  obtain ⟨a, b, c, h⟩ := undFn
  simp [Op.equalIn, run_underlying h]
theorem eql_func_nil (w : World) (fn : Fn) (xs ys : Array Value) : (binOp .eql 51 (.func fn xs ys) .nilFunc).run Tryd.prog w = .ok (.bool false) w := by
  simp only [binOp]
  simp [Op.equal, Op.maxDepth, equalIn_func_nil w 9999 fn xs ys]
theorem upd_of_below {n₀ : Nat} {W W' : World} (h : Below n₀ W W') : Upd (fun j => n₀ ≤ j) W W' := ⟨h.os, h.tape, h.output, h.size, fun k _ hs => h.block k (by omega)⟩
theorem info34 : (Tryd.prog.info? 3).map (fun i => (i.zero, i.size, i.bytes)) = some (some (.int .i64 0), 1, 8) := by kernel_rfl
theorem nats_snoc (l : List Nat) (x : Nat) : (nats (l ++ [x])).map (Value.int .i64) = (nats l).map (Value.int .i64) ++ [.int .i64 x] := by simp [nats]

set_option maxRecDepth 100000 in
set_option maxHeartbeats 4000000 in
/-- WHAT THE LAW COLLECTS. -/
theorem lawAll_any {w : World} {b : Nat} {v : Value} {l : List Int} (h : SlotsAt 49 w b v l) (st : Int) (hpos : 0 < l.length) :
    Calls Tryd.prog 15 #[ptrAt b, .int .i64 st] w fun e w' => ∃ v', e = .returned (.tuple #[v', .bool true]) ∧ Sl w' 3 1 v' (pos l st).length (ints (nats (pos l st))) ∧ From w.heap.size v' ∧ Below w.heap.size w w' := by
  have hlen : Hid ((pos l st).length ≤ 1024) := by have h1 := posTo_len l st l.length; have h2 := h.le; exact Nat.le_trans h1 h2
  have hle := h.le
  have h1 := (h.new ((Upd.refl (fun _ => False) w).alloc (.cells #[.slice none 0 0] 34))).new ((Upd.refl (fun _ => False) _).alloc (.cells #[.bool false] 4))
  obtain ⟨i0, hi, hz0, hz1, hz2⟩ := info_parts info34
  have qf := eql_func_nil
  clear h
  refine (callsIn_wide (n := 3)).1 ?_
  refine callsIn_of_wp_marks Tryd.func15 rfl trivial ?_ rfl
  simp only [Tryd.ntmps15, List.size_toArray, List.length_cons, List.length_nil, Nat.reduceAdd, Nat.reduceSub, Array.replicate_succ, Array.replicate_zero, List.push_toArray, List.append_toArray, List.nil_append, List.cons_append]
  gi_wp2_with (refine ⟨trivial, ?_⟩; gi_at_call 26; refine (callsIn_wide.2 (all_any h1 st hpos)).mono ?_; rintro e w1 ⟨Bs, Bt, g, off, cap, rfl, hge, hBs, hBt, hg, hcs, hct, hcl, hb1⟩)
  have hsz := hb1.size
  simp at hsz hge
  have hN : Below w.heap.size w ((w.alloc (.cells #[.slice none 0 0] 34)).alloc (.cells #[.bool false] 4)) := ((Below.refl _ w).alloc (Nat.le_refl _) _).alloc (by simp) _
  have hB1 : Below w.heap.size w w1 := below_upd hN (Upd.of_below (S := fun _ => False) hb1) (Nat.le_refl _) (fun _ h => h.elim)
  have b0 : Boxed w1 w.heap.size 34 (.slice none 0 0) := (hb1.block _ (by simp; omega)).trans ((Boxed.new w _ _).alloc _)
  have b1 : Boxed w1 (w.heap.size + 1) 4 (.bool false) := (hb1.block _ (by simp)).trans (heap_alloc_last _ _ (by simp))
  have bO : Boxed (w1.alloc (.cells #[.slice none 0 0] 34)) w1.heap.size 34 (.slice none 0 0) := Boxed.new w1 _ _
  have hI1 : Upd (fun _ => False) w1 (w1.alloc (.cells #[.slice none 0 0] 34)) := (Upd.refl _ _).alloc _
  refine wpIn_rangeFunc_ownG rfl (by omega) (gf := 29) (lb := #[.pointer (some ⟨Bs, 0, none⟩), .pointer (some ⟨Bt, 0, none⟩)]) rfl trivial (enters_of Tryd.func29 (by kernel_rfl) rfl)
    (it_stops Fence.wide _ trivial rfl (by omega) (fun j => w1.heap.size ≤ j) Bs Bt g off cap l st (w1.alloc (.cells #[.slice none 0 0] 34)) hle (by simp; omega) (by simp; omega) (by simp; omega) (by omega) (by omega)
      ((hI1.cellAt hBs (fun h => h)).trans hcs) ((hI1.cellAt hBt (fun h => h)).trans hct) (fun j hj => (hI1.cellAt hg (fun h => h)).trans (hcl j hj))) upd_t (fun W l o o' hl => upd_b (M := w1.heap.size) (fun j h => h) W l o o' (by simp at hl; omega)) (Below.refl _ _) (fun _ => rfl)
    (fun pre W => (∃ v, Boxed W w1.heap.size 34 v ∧ W.ownsRow w1.heap.size 3 1 v pre.length ((nats pre).map (Value.int .i64)) ∧ True) ∧ (Boxed W w.heap.size 34 (.slice none 0 0) ∧ Boxed W (w.heap.size + 1) 4 (.bool false)) ∧ Below w.heap.size w W)
    (fun _ _ _ => False)
    (OwnFrom.and (Own.from (holdsRow_own w1.heap.size w1.heap.size 34 3 1 (fun pre => pre.length) (fun pre => (nats pre).map (Value.int .i64)) (fun _ _ => True)) _)
      (OwnFrom.and (Own.from (I := fun (_ : List Nat) A => Boxed A w.heap.size 34 (.slice none 0 0) ∧ Boxed A (w.heap.size + 1) 4 (.bool false)) (fun s A B row hs hg hr => ⟨boxed_kept hs.1 hg hr, boxed_kept hs.2 hg hr⟩) _) (ownFrom_below (Nat.le_refl _) (by simp; omega))))
    (fun _ _ _ _ _ hs _ _ => hs)
    ⟨⟨_, bO, World.ownsRow_nil _ _ _ _, trivial⟩, ⟨b0.alloc _, b1.alloc _⟩, below_upd hB1 hI1 (Nat.le_refl _) (fun _ h => h.elim)⟩
    (fun x => { tmps := #[ptrAt b, Value.int IntKind.i64 st, undef, undef, Value.pointer (some { block := w.heap.size, off := 0 }),
          Value.pointer (some { block := w.heap.size + 1, off := 0 }),
          Value.func (Fn.func 29) #[]
            #[Value.pointer (some { block := Bs, off := 0 }), Value.pointer (some { block := Bt, off := 0 })],
          Value.pointer (some { block := w1.heap.size, off := 0 }), .int .i64 x, ptrAt b, Value.int IntKind.i64 st,
          Value.func (Fn.func 29) #[]
            #[Value.pointer (some { block := Bs, off := 0 }), Value.pointer (some { block := Bt, off := 0 })],
          Value.func (Fn.func 29) #[]
            #[Value.pointer (some { block := Bs, off := 0 }), Value.pointer (some { block := Bt, off := 0 })],
          Value.bool false,
          Value.func (Fn.func 29) #[]
            #[Value.pointer (some { block := Bs, off := 0 }), Value.pointer (some { block := Bt, off := 0 })],
          .int .i64 x, undef, undef, undef, undef, undef, undef, undef, undef], defers := [] }) ?assign ?body ?done ?stop
  case assign =>
    intro l x W K hK
    gi_wp2
    exact hK
  case body =>
    rintro l pre x W ⟨⟨v, hv, hrow, _⟩, ⟨q0, q1⟩, hB⟩ hlt
    have hc := hv.cell
    have hn : pre.length < 1024 := by have := hlen.out; omega
    have hWs : w1.heap.size ≤ W.heap.size := by have := hv.lt; omega
    have Q0 := Lib.hid q0
    have Q1 := Lib.hid q1
    have HB := Lib.hid hB
    clear q0 q1 hB
    gi_wp2_with (gi_at_builtin; refine wpListIn_append_own _ rfl _ _ 34 rfl w1.heap.size 3 i0 (.int .i64 0) 1 8 Tryd.underlying34 hi hz0 hz1 hz2 rfl (by decide) _ _ _ rfl (hrow.alloc _) ⟨W.heap.size, 0, none⟩ 1 1 [.int .i64 x] rfl rfl (cell_one_new _ _ _) (by simp [Value.oneCell']) (by unfold maxLen; omega) (by omega) (by simp; omega) ?_; intro v' w1' hown' hgrow _; obtain ⟨g', cap', rfl⟩ := ownsRow_succ hown'; obtain ⟨hv1, hv2, hr2, hk2, hb2⟩ := hv.appended (by decide) hrow hWs (Nat.le_refl _) hown' hgrow; have hc1 := hv1.cell; have hf1 := hv1.frozen; have hc2 := hv2.cell)
    exact ⟨hk2.from _, upd_of_below hb2, ⟨_, hv2, by rw [nats_snoc, List.length_append]; exact hr2, trivial⟩, ⟨(hb2.block _ (by omega)).trans Q0.out, (hb2.block _ (by omega)).trans Q1.out⟩, HB.out.trans (hb2.mono (by omega))⟩
  case done =>
    rintro D ys W hD rfl ⟨⟨v, hv, hrow, _⟩, ⟨q0, q1⟩, hB⟩ hK
    have hsl := Sl.of_own hrow
    obtain ⟨vo, vc, rfl⟩ := hsl.rd.nil_iff
    have hc := hv.cell
    have k0 := q0.cell
    have k1 := q1.cell
    have f0 := q0.frozen
    have f1 := q1.frozen
    gi_wp2
    have e0 := q0.set (.slice vo (pos l st).length vc)
    have l1 : w.heap.size + 1 < W.heap.size := q1.lt
    have e1 : Boxed (W.setCell ⟨w.heap.size, 0, none⟩ (.slice vo (pos l st).length vc)) (w.heap.size + 1) 4 (.bool false) := ((upd_setCell W w.heap.size 0 _).block _ l1 (by omega)).trans q1
    have g0 : Boxed ((W.setCell ⟨w.heap.size, 0, none⟩ (.slice vo (pos l st).length vc)).setCell ⟨w.heap.size + 1, 0, none⟩ (.bool true)) w.heap.size 34 (.slice vo (pos l st).length vc) :=
      ((upd_setCell _ (w.heap.size + 1) 0 _).block _ (by simp; omega) (by omega)).trans e0
    have g1 := e1.set (.bool true)
    have r1 := hrow.kept (grownBy_setCell' W w.heap.size (.slice vo (pos l st).length vc)) (.inr (q0.not_row (by decide) hrow).symm)
    have r2 := r1.kept (grownBy_setCell' _ (w.heap.size + 1) (.bool true)) (.inr (e1.not_row (by decide) r1).symm)
    have K1 := (KeepsOthers.setCell W ⟨w.heap.size, 0, none⟩ (.slice vo (pos l st).length vc)).same D _ hK rfl
    have K2 := (KeepsOthers.setCell _ ⟨w.heap.size + 1, 0, none⟩ (.bool true)).same D _ K1 rfl
    have c4 := cell_kept g0.cell (grownBy_putObj' _ D (.deferred none)) (fun r e => by cases e; exact ⟨_, K2, rfl⟩)
    have c5 := cell_kept g1.cell (grownBy_putObj' _ D (.deferred none)) (fun r e => by cases e; exact ⟨_, K2, rfl⟩)
    refine ⟨by simp, .inl ⟨_, _, rfl, run_takeDeferred K2, ?_⟩⟩
    refine ⟨.tuple #[.slice vo (pos l st).length vc, .bool true], ?_, _, rfl, Sl.of_own (ownsRow_putObj r2 _ K2 rfl), ?_, ?_⟩
    · simp [results, Tryd.f15, go_sem, c4, c5]
    · intro g' hg'
      rcases hrow.2 with ⟨h, _⟩ | ⟨g2, cap2, cur2, h, hb2, _⟩
      · rw [h] at hg'; cases hg'
      · rw [h] at hg'; simp [Value.ownBlock] at hg'; omega
    · exact ((hB.setCell (p := ⟨w.heap.size, 0, none⟩) (Nat.le_refl _) _).setCell (p := ⟨w.heap.size + 1, 0, none⟩) (by simp) _).trans (belowK_b (w := w) (Nat.le_refl _) _ D _ _ (by simp at hD; omega) K2 rfl rfl)
  case stop =>
    rintro D c pre W _ _ h _
    exact h.elim

set_option maxRecDepth 100000 in
set_option maxHeartbeats 2000000 in
theorem count_nil (st : Int) (w : World) :
    Calls Tryd.prog 18 #[.pointer none, .int .i64 st] w fun e w' => e = .returned (.int .i64 0) ∧ Below w.heap.size w w' := by
  refine (callsIn_wide (n := 3)).1 ?_
  refine callsIn_of_wp_marks Tryd.func18 rfl trivial ?_ rfl
  simp only [Tryd.ntmps18, List.size_toArray, List.length_cons, List.length_nil, Nat.reduceAdd, Nat.reduceSub, Array.replicate_succ, Array.replicate_zero, List.push_toArray, List.append_toArray, List.nil_append, List.cons_append]
  gi_wp2_with (refine ⟨trivial, ?_⟩; gi_at_call 26; refine (callsIn_wide.2 (all_nil st _)).mono ?_; rintro e w1 ⟨rfl, rfl⟩)
  have bO0 : Boxed (w.alloc (.cells #[.int .i64 0] 3)) w.heap.size 3 (.int .i64 0) := Boxed.new w _ _
  have bO := bO0.alloc (.cells #[.int .i64 st] 3)
  have hB0 : Below w.heap.size w ((w.alloc (.cells #[.int .i64 0] 3)).alloc (.cells #[.int .i64 st] 3)) := ((Below.refl _ w).alloc (Nat.le_refl _) _).alloc (by simp) _
  refine wpIn_rangeFunc_ownF rfl (by omega) (gf := 28) (lb := #[]) rfl trivial (enters_of Tryd.func28 (by kernel_rfl) rfl)
    (none_stops Fence.wide _ trivial rfl (fun j => w.heap.size ≤ j) _) upd_t (fun W l o o' hl => upd_b (M := w.heap.size) (fun j h => h) W l o o' (by simp at hl; omega)) (Below.refl _ _) (fun _ => rfl)
    (fun pre W => Boxed W w.heap.size 3 (.int .i64 0) ∧ Below w.heap.size w W)
    (fun _ _ _ => False)
    (OwnFrom.and (Own.from (I := fun (s : List Nat) A => Boxed A w.heap.size 3 (.int .i64 0)) (fun s A B row hs hg hr => boxed_kept hs hg hr) _) (ownFrom_below (Nat.le_refl _) (by simp; omega)))
    (fun _ _ _ _ _ hs _ _ => hs)
    ⟨bO, hB0⟩
    (fun x => { tmps := #[.pointer none, Value.int IntKind.i64 st, undef, undef, Value.int IntKind.i64 0,
          Value.pointer (some { block := w.heap.size, off := 0 }), .pointer none, Value.int IntKind.i64 st,
          Value.func (Fn.func 28) #[] #[],
          .int .i64 x, undef, undef, undef], defers := [] }) ?assign ?body ?done ?stop
  case assign =>
    intro l x W K hK
    gi_wp2
    simpa using hK
  case body =>
    rintro l pre x W _ hlt
    simp at hlt
  case done =>
    rintro D ys W hD rfl ⟨hv, hB⟩ hK
    have hc := hv.cell
    gi_wp2
    refine ⟨by simp, .inl ⟨_, _, rfl, run_takeDeferred hK, ?_⟩⟩
    exact ⟨_, results_tmp rfl _ _ _, rfl, hB.trans (belowK_b (w := w) (Nat.le_refl _) W D _ _ (by simp at hD; omega) hK rfl rfl)⟩
  case stop =>
    rintro D c pre W _ _ h _
    exact h.elim

set_option maxRecDepth 100000 in
set_option maxHeartbeats 4000000 in
theorem lawAll_nil (st : Int) (w : World) :
    Calls Tryd.prog 15 #[.pointer none, .int .i64 st] w fun e w' => e = .returned (.tuple #[.slice none 0 0, .bool true]) ∧ Below w.heap.size w w' := by
  have qf := eql_func_nil
  refine (callsIn_wide (n := 3)).1 ?_
  refine callsIn_of_wp_marks Tryd.func15 rfl trivial ?_ rfl
  simp only [Tryd.ntmps15, List.size_toArray, List.length_cons, List.length_nil, Nat.reduceAdd, Nat.reduceSub, Array.replicate_succ, Array.replicate_zero, List.push_toArray, List.append_toArray, List.nil_append, List.cons_append]
  gi_wp2_with (refine ⟨trivial, ?_⟩; gi_at_call 26; refine (callsIn_wide.2 (all_nil st _)).mono ?_; rintro e w1 ⟨rfl, rfl⟩)
  obtain ⟨w1, hw1⟩ : ∃ w1, w1 = (((w.alloc (.cells #[.slice none 0 0] 34)).alloc (.cells #[.bool false] 4)).alloc (.cells #[.int .i64 st] 3)) := ⟨_, rfl⟩
  have hN : Below w.heap.size w w1 := by rw [hw1]; exact (((Below.refl _ w).alloc (Nat.le_refl _) _).alloc (by simp) _).alloc (by simp; omega) _
  have b0 : Boxed w1 w.heap.size 34 (.slice none 0 0) := by rw [hw1]; exact ((Boxed.new w _ _).alloc _).alloc _
  have b1 : Boxed w1 (w.heap.size + 1) 4 (.bool false) := by
    rw [hw1]
    have : Boxed ((w.alloc (.cells #[.slice none 0 0] 34)).alloc (.cells #[.bool false] 4)) (w.heap.size + 1) 4 (.bool false) := heap_alloc_last _ _ (by simp)
    exact this.alloc _
  have hz : w.heap.size + 3 = w1.heap.size := by rw [hw1]; simp
  have hz' : w.heap.size + 1 + 1 + 1 = w1.heap.size := hz
  rw [← hw1]
  rw [hz']
  have hlt1 : w.heap.size + 3 ≤ w1.heap.size := by omega
  clear hw1 hz hz'
  have bO : Boxed (w1.alloc (.cells #[.slice none 0 0] 34)) w1.heap.size 34 (.slice none 0 0) := Boxed.new w1 _ _
  have hI1 : Upd (fun _ => False) w1 (w1.alloc (.cells #[.slice none 0 0] 34)) := (Upd.refl _ _).alloc _
  refine wpIn_rangeFunc_ownF rfl (by omega) (gf := 28) (lb := #[]) rfl trivial (enters_of Tryd.func28 (by kernel_rfl) rfl)
    (none_stops Fence.wide _ trivial rfl (fun j => w1.heap.size ≤ j) _) upd_t (fun W l o o' hl => upd_b (M := w1.heap.size) (fun j h => h) W l o o' (by simp at hl; omega)) (Below.refl _ _) (fun _ => rfl)
    (fun pre W => (Boxed W w1.heap.size 34 (.slice none 0 0) ∧ Boxed W w.heap.size 34 (.slice none 0 0) ∧ Boxed W (w.heap.size + 1) 4 (.bool false)) ∧ Below w.heap.size w W)
    (fun _ _ _ => False)
    (OwnFrom.and (Own.from (I := fun (_ : List Nat) A => Boxed A w1.heap.size 34 (.slice none 0 0) ∧ Boxed A w.heap.size 34 (.slice none 0 0) ∧ Boxed A (w.heap.size + 1) 4 (.bool false)) (fun s A B row hs hg hr => ⟨boxed_kept hs.1 hg hr, boxed_kept hs.2.1 hg hr, boxed_kept hs.2.2 hg hr⟩) _) (ownFrom_below (Nat.le_refl _) (by simp; omega)))
    (fun _ _ _ _ _ hs _ _ => hs)
    ⟨⟨bO, b0.alloc _, b1.alloc _⟩, below_upd hN hI1 (Nat.le_refl _) (fun _ h => h.elim)⟩
    (fun x => { tmps := #[Value.pointer none, Value.int IntKind.i64 st, undef, undef,
          Value.pointer (some { block := w.heap.size, off := 0 }),
          Value.pointer (some { block := w.heap.size + 1, off := 0 }), Value.func (Fn.func 28) #[] #[],
          Value.pointer (some { block := w1.heap.size, off := 0 }), .int .i64 x, Value.pointer none,
          Value.int IntKind.i64 st, Value.func (Fn.func 28) #[] #[], Value.func (Fn.func 28) #[] #[], Value.bool false,
          Value.func (Fn.func 28) #[] #[], .int .i64 x, undef, undef, undef, undef, undef, undef, undef, undef], defers := [] }) ?assign ?body ?done ?stop
  case assign =>
    intro l x W K hK
    gi_wp2
    exact hK
  case body =>
    rintro l pre x W _ hlt
    simp at hlt
  case done =>
    rintro D ys W hD rfl ⟨⟨hv, q0, q1⟩, hB⟩ hK
    have hc := hv.cell
    have k0 := q0.cell
    have k1 := q1.cell
    have f0 := q0.frozen
    have f1 := q1.frozen
    gi_wp2
    have e0 := q0.set (.slice none 0 0)
    have l1 : w.heap.size + 1 < W.heap.size := q1.lt
    have e1 : Boxed (W.setCell ⟨w.heap.size, 0, none⟩ (.slice none 0 0)) (w.heap.size + 1) 4 (.bool false) := ((upd_setCell W w.heap.size 0 _).block _ l1 (by omega)).trans q1
    have g0 : Boxed ((W.setCell ⟨w.heap.size, 0, none⟩ (.slice none 0 0)).setCell ⟨w.heap.size + 1, 0, none⟩ (.bool true)) w.heap.size 34 (.slice none 0 0) :=
      ((upd_setCell _ (w.heap.size + 1) 0 _).block _ (by simp; omega) (by omega)).trans e0
    have g1 := e1.set (.bool true)
    have K1 := (KeepsOthers.setCell W ⟨w.heap.size, 0, none⟩ (.slice none 0 0)).same D _ hK rfl
    have K2 := (KeepsOthers.setCell _ ⟨w.heap.size + 1, 0, none⟩ (.bool true)).same D _ K1 rfl
    have c4 := cell_kept g0.cell (grownBy_putObj' _ D (.deferred none)) (fun r e => by cases e; exact ⟨_, K2, rfl⟩)
    have c5 := cell_kept g1.cell (grownBy_putObj' _ D (.deferred none)) (fun r e => by cases e; exact ⟨_, K2, rfl⟩)
    refine ⟨by simp, .inl ⟨_, _, rfl, run_takeDeferred K2, ?_⟩⟩
    refine ⟨.tuple #[.slice none 0 0, .bool true], ?_, rfl, ?_⟩
    · simp [results, Tryd.f15, go_sem, c4, c5]
    · exact ((hB.setCell (p := ⟨w.heap.size, 0, none⟩) (Nat.le_refl _) _).setCell (p := ⟨w.heap.size + 1, 0, none⟩) (by simp) _).trans (belowK_b (w := w) (Nat.le_refl _) _ D _ _ (by simp at hD; omega) K2 rfl rfl)
  case stop =>
    rintro D c pre W _ _ h _
    exact h.elim
end Go.Proofs.YtolhlfahoooliaaDoor
