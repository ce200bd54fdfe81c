/- The iterator over the slots in a state: its contract; who ranges over it. The sectors of a checkpoint: the iterator over them; are they there? -/
import Derived.RangeFuncNested
import Derived.RangeFuncBound
import Derived.RangeFuncCalls
import Derived.RangeFuncLeaves
import Derived.RangeFuncBox
import Derived.Shelf.Abstract
import Derived.WalkKit
import Derived.OwnWalkIn
import Derived.TacticsInMore
import Derived.LoopNIn
import Derived.LoopIn
import Derived.Maps.AppendAt
import Derived.Test.YtnadilfobmgebaaGreatDoorG17
import Derived.Test.YtnadilfobmgebaaGreatDoorG04
namespace Go.Proofs.YtnadilfobmgebaaGreatDoor
open Go Go.RowKit Go.Shelf
attribute [local go_sem] Oper.semAt_some
def posTo (l : List Int) (st : Int) (k : Nat) : List Nat := (List.range k).filter fun i => l[i]?.getD 0 == st
abbrev pos (l : List Int) (st : Int) : List Nat := posTo l st l.length
theorem posTo_hit {l : List Int} {st : Int} {k : Nat} (h : (l[k]?.getD 0 == st) = true) : posTo l st (k + 1) = posTo l st k ++ [k] := by simp [posTo, List.range_succ, h]
theorem posTo_miss {l : List Int} {st : Int} {k : Nat} (h : (l[k]?.getD 0 == st) = false) : posTo l st (k + 1) = posTo l st k := by simp [posTo, List.range_succ, h]
theorem posTo_prefix (l : List Int) (st : Int) {k m : Nat} (h : k ≤ m) : posTo l st k <+: posTo l st m := by
  induction m with
  | zero => obtain rfl : k = 0 := by omega
            exact List.prefix_rfl
  | succ m ih =>
    by_cases hk : k = m + 1
    · subst hk; exact List.prefix_rfl
    · refine (ih (by omega)).trans ?_
      by_cases hb : (l[m]?.getD 0 == st) = true
      · rw [posTo_hit hb]; exact List.prefix_append _ _
      · rw [posTo_miss (by simpa using hb)]; exact List.prefix_rfl
theorem posTo_strict (l : List Int) (st : Int) {k m : Nat} (h : k < m) (hb : (l[k]?.getD 0 == st) = true) : (posTo l st k).length < (posTo l st m).length := by
  have h1 := (posTo_prefix l st (show k + 1 ≤ m by omega)).length_le
  rw [posTo_hit hb] at h1
  simp at h1; omega
set_option maxRecDepth 100000 in
set_option maxHeartbeats 2000000 in
theorem sit_in (F : Fence) (n : Nat) (h7 : F.fn 187) (hro : F.round = none) (hn : 1 ≤ n) (S : Nat → Prop) (l Bs Bt b off cap : Nat) (zs : List Int) (st : Int) (hle : zs.length ≤ 1024) (hb : ¬ S b) (hBt : ¬ S Bt) (J Jx : List Nat → World → Prop)
    (hY : ∀ pre (x : Nat) W, J pre W → pre.length < (pos zs st).length → YieldAt F (n - 1) Tryz.prog l #[.int .i64 (x : Int)] W fun e W' =>
      (e = .returned (.bool true) ∧ J (pre ++ [x]) W' ∧ Upd S W W') ∨ (e = .returned (.bool false) ∧ Jx (pre ++ [x]) W'))
    (W : World) (hbW : b < W.heap.size) (hBtW : Bt < W.heap.size) (hBs : W.cell? ⟨Bs, 0, none⟩ = some (.slice (some ⟨b, off, none⟩) zs.length cap)) (hct : W.cell? ⟨Bt, 0, none⟩ = some (.int .i64 st))
    (hc : ∀ j, j < zs.length → W.cell? ⟨b, off + j, none⟩ = some (.int .i64 (zs[j]?.getD 0))) (h0 : J [] W) :
    CallsIn F n Tryz.prog 187 #[.func (.yield l) #[] #[], .pointer (some ⟨Bs, 0, none⟩), .pointer (some ⟨Bt, 0, none⟩)] W fun e W' => (∃ v, e = .returned v) ∧
      ((∃ ys, ys = pos zs st ∧ J ys W') ∨ (∃ pre, pre <+: pos zs st ∧ Jx pre W')) := by
  refine callsIn_of_wp Tryz.func187 rfl h7 ?_ hro
  simp only [Tryz.ntmps187, List.size_toArray, List.length_cons, List.length_nil, Nat.reduceAdd, Nat.reduceSub, Array.replicate_succ, Array.replicate_zero, List.push_toArray, List.append_toArray, List.nil_append, List.cons_append]
  gi_wp2
  gi_loopw [8] (fun i wr => ∃ k : Nat, k ≤ zs.length ∧ i = .int .i64 k ∧ J (posTo zs st k) wr ∧ Upd S W wr)
    (fun i _ => zs.length - (intOf i).toNat)
  case atStart => exact ⟨0, Nat.zero_le _, rfl, h0, Upd.refl _ _⟩
  case round =>
    obtain ⟨k, hk, rfl, hJs, hnx⟩ := hrel
    have hct' : wr.cell? ⟨Bt, 0, none⟩ = some (.int .i64 st) := (hnx.cellAt hBtW hBt).trans hct
    by_cases hlt : k < zs.length
    · have hcx' : wr.cell? ⟨b, off + k, none⟩ = some (.int .i64 (zs[k]?.getD 0)) := (hnx.cellAt hbW hb).trans (hc k hlt)
      have hgd : Hid (zs[k]?.getD 0 = zs[k]) := by show _ = _; simp [hlt]
      by_cases hq : (zs[k] == st) = true
      · have hqq : Hid ((zs[k]?.getD 0 == st) = true) := by rw [hgd.out]; exact hq
        obtain ⟨fn, tmps, assign, body, hy, hR⟩ := hY _ k wr hJs (posTo_strict zs st hlt hqq.out)
        gi_wp2
        refine hR.mono ?_
        rintro e W3 (⟨rfl, hJ3, hk3⟩ | ⟨rfl, hJx3⟩)
        · gi_wp2
          go_roundw
          case rel => exact ⟨k + 1, by omega, by simp, by rw [posTo_hit hqq.out]; exact hJ3, hnx.trans hk3⟩
          case measure => simp [intOf]; omega
        · gi_wp2
          refine bodyPost_ret (results_none rfl _ _ _) rfl ?_
          exact ⟨⟨_, rfl⟩, .inr ⟨_, by rw [← posTo_hit hqq.out]; exact posTo_prefix zs st (by omega), hJx3⟩⟩
      · have hq' : (zs[k] == st) = false := by simpa using hq
        have hqq : Hid ((zs[k]?.getD 0 == st) = false) := by rw [hgd.out]; exact hq'
        clear hq
        gi_wp2
        refine ⟨fun _ h => (by cases h), ?_⟩
        gi_wp2
        go_roundw
        case rel => exact ⟨k + 1, by omega, by simp, by rw [posTo_miss hqq.out]; exact hJs, hnx⟩
        case measure => simp [intOf]; omega
    · obtain rfl : k = zs.length := by omega
      gi_wp2
      go_end0
      exact ⟨⟨_, rfl⟩, .inl ⟨_, rfl, hJs⟩⟩
theorem sit_stops (F : Fence) (n : Nat) (h7 : F.fn 187) (hro : F.round = none) (hn : 1 ≤ n) (S : Nat → Prop) (Bs Bt b off cap : Nat) (zs : List Int) (st : Int) (w : World) (hle : zs.length ≤ 1024)
    (hb : b < w.heap.size) (hBt : Bt < w.heap.size) (hBs : Bs < w.heap.size) (hbS : ¬ S b) (hBtS : ¬ S Bt)
    (hcs : w.cell? ⟨Bs, 0, none⟩ = some (.slice (some ⟨b, off, none⟩) zs.length cap)) (hct : w.cell? ⟨Bt, 0, none⟩ = some (.int .i64 st))
    (hc : ∀ j, j < zs.length → w.cell? ⟨b, off + j, none⟩ = some (.int .i64 (zs[j]?.getD 0))) :
    SeqStopsK F n Tryz.prog 187 #[.pointer (some ⟨Bs, 0, none⟩), .pointer (some ⟨Bt, 0, none⟩)] (fun x : Nat => #[Value.int .i64 (x : Int)]) (Upd S) (fun ys => ys = pos zs st) (fun pre => pre <+: pos zs st) (pos zs st).length w := fun l J Jx W hW _ _ hY h0 =>
  sit_in F n h7 hro hn S l Bs Bt b off cap zs st hle hbS hBtS J Jx hY W (Nat.lt_of_lt_of_le hb hW.size) (Nat.lt_of_lt_of_le hBt hW.size) ((hW.cell (p := ⟨Bs, 0, none⟩) hBs).trans hcs) ((hW.cell (p := ⟨Bt, 0, none⟩) hBt).trans hct) (fun j hj => (hW.cell (p := ⟨b, off + j, none⟩) hb).trans (hc j hj)) h0
theorem supd_t {S : Nat → Prop} {A B C : World} (h : Upd S A B) (h' : Upd S B C) : Upd S A C := h.trans h'
theorem supd_b {S : Nat → Prop} {M : Nat} (hS : ∀ j, M ≤ j → S j) (W : World) (l : Nat) (o o' : Obj) (hl : M ≤ l) (_ : W.heap[l]? = some o) (_ : o.isCells = false) (_ : o.isWalk = false) : Upd S W (W.putObj l o') :=
  ⟨rfl, rfl, rfl, by simp [World.putObj], fun k _ hk => by
    have : k ≠ l := fun e => hk (hS k (by omega))
    simp only [World.putObj]
    rw [Array.getElem?_setIfInBounds_ne (fun e => this e.symm)]⟩
theorem all_any {w : World} {b : Nat} {v : Value} {l : List Int} (h : SlotsAt 285 w b v l) (st : Int) (hpos : 0 < l.length) :
    Calls Tryz.prog 149 #[ptrAt b, .int .i64 st] w fun e w' => ∃ Bs Bt g off cap, e = .returned (.func (.func 187) #[] #[.pointer (some ⟨Bs, 0, none⟩), .pointer (some ⟨Bt, 0, none⟩)]) ∧
      (w.heap.size ≤ Bt ∧ w.heap.size ≤ g) ∧ Bs < w'.heap.size ∧ Bt < w'.heap.size ∧ g < w'.heap.size ∧ w'.cell? ⟨Bs, 0, none⟩ = some (.slice (some ⟨g, off, none⟩) l.length cap) ∧ w'.cell? ⟨Bt, 0, none⟩ = some (.int .i64 st) ∧
      (∀ j, j < l.length → w'.cell? ⟨g, off + j, none⟩ = some (.int .i64 (l[j]?.getD 0))) ∧ Below w.heap.size w w' := by
  have hu0 : Upd (fun _ => False) w (w.alloc (.cells #[.int .i64 st] 3)) := (Upd.refl _ _).alloc _
  have h' := h.new hu0
  have hc0 := cell_of_block h'.str 0
  simp at hc0
  have HR := Lib.hid h'.sl.rd
  have hle := h.le
  clear h h'
  go_enter Tryz.func149, Tryz.ntmps149
  go_wp2_with fail
  refine (clone_any HR.out (by omega)).mono ?_
  rintro e w1 ⟨v', rfl, hs1, hf1, hb1⟩
  obtain ⟨g, off, cap, cur, rfl, hg, _, hcc⟩ := hs1.at hpos
  have hlt := lt_of_block hg
  go_wp2
  go_ret
  have hsz := hb1.size
  simp at hsz
  have hbox : w1.cell? ⟨w.heap.size, 0, none⟩ = some (.int .i64 st) := (hb1.cell (p := ⟨w.heap.size, 0, none⟩) (by simp)).trans (by rw [cell_of_block (heap_alloc_last _ _ rfl)]; simp)
  have hA := (Upd.refl (fun _ => False) w1).alloc (.cells #[.slice (some ⟨g, off, none⟩) l.length cap] 100)
  refine ⟨w1.heap.size, w.heap.size, g, off, cap, rfl, ⟨Nat.le_refl _, by have := hf1 g rfl; simp at this; omega⟩, by simp, by simp; omega, by simp; omega, ?_, ?_, fun j hj => ?_, ?_⟩
  · rw [cell_of_block (heap_alloc_last _ _ rfl)]; simp
  · exact (hA.cellAt (by omega) (fun h => h)).trans hbox
  · refine (hA.cellAt hlt (fun h => h)).trans ?_
    rw [cell_of_block hg, hcc j _ (get_ints hj)]; simp [hj]
  · exact below_upd (below_upd (Below.refl _ w) (Upd.new hu0 (Upd.of_below (S := fun _ => False) hb1) (fun _ _ h => h)) (Nat.le_refl _) (fun _ h => h.elim)) hA (Nat.le_refl _) (fun _ h => h.elim)
attribute [local go_sem] Oper.semAt_some
abbrev encS (base : Nat) {m : Nat} (x : { i : Nat // i < m }) : Array Value := #[.int .i64 (x.1 : Int), .int .i64 ((base : Int) + (x.1 : Int))]
set_option maxRecDepth 100000 in
set_option maxHeartbeats 2000000 in
theorem sec_in (n : Nat) (hn : 1 ≤ n) (S : Nat → Prop) (l Bm Bb base m : Nat) (hm : m ≤ 4096) (hbs : base ≤ 4096) (hBm : ¬ S Bm) (hBb : ¬ S Bb) (J Jx : List { i : Nat // i < m } → World → Prop)
    (hY : ∀ pre (x : { i : Nat // i < m }) W, J pre W → pre.length < m → YieldAt Fence.wide (n - 1) Tryz.prog l (encS base x) W fun e W' =>
      (e = .returned (.bool true) ∧ J (pre ++ [x]) W' ∧ Upd S W W') ∨ (e = .returned (.bool false) ∧ Jx (pre ++ [x]) W'))
    (W : World) (hmW : Bm < W.heap.size) (hbW : Bb < W.heap.size) (hcm : W.cell? ⟨Bm, 0, none⟩ = some (.int .i64 m)) (hcb : W.cell? ⟨Bb, 0, none⟩ = some (.int .i64 base)) (h0 : J [] W) :
    CallsIn Fence.wide n Tryz.prog 243 #[.func (.yield l) #[] #[], .pointer (some ⟨Bm, 0, none⟩), .pointer (some ⟨Bb, 0, none⟩)] W fun e W' => (∃ v, e = .returned v) ∧
      ((∃ ys : List { i : Nat // i < m }, ys.map (·.1) = List.range m ∧ J ys W') ∨ (∃ pre : List { i : Nat // i < m }, True ∧ Jx pre W')) := by
  refine callsIn_of_wp Tryz.func243 rfl trivial ?_ rfl
  simp only [Tryz.ntmps243, List.size_toArray, List.length_cons, List.length_nil, Nat.reduceAdd, Nat.reduceSub, Array.replicate_succ, Array.replicate_zero, List.push_toArray, List.append_toArray, List.nil_append, List.cons_append]
  gi_wp2
  gi_loopw [4] (fun i wr => ∃ (k : Nat) (pre : List { i : Nat // i < m }), k ≤ m ∧ i = .int .i64 k ∧ pre.map (·.1) = List.range k ∧ J pre wr ∧ Upd S W wr)
    (fun i _ => m - (intOf i).toNat)
  case atStart => exact ⟨0, [], Nat.zero_le _, rfl, rfl, h0, Upd.refl _ _⟩
  case round =>
    obtain ⟨k, pre, hk, rfl, hpre, hJs, hnx⟩ := hrel
    have hcm' : wr.cell? ⟨Bm, 0, none⟩ = some (.int .i64 m) := (hnx.cellAt hmW hBm).trans hcm
    have hcb' : wr.cell? ⟨Bb, 0, none⟩ = some (.int .i64 base) := (hnx.cellAt hbW hBb).trans hcb
    by_cases hlt : k < m
    · have hpl : pre.length = k := by have := congrArg List.length hpre; simpa using this
      obtain ⟨fn, tmps, assign, body, hy, hR⟩ := hY pre ⟨k, hlt⟩ wr hJs (by omega)
      have b2 : (k : Int) < (m : Int) := by omega
      gi_wp2
      refine hR.mono ?_
      rintro e W3 (⟨rfl, hJ3, hk3⟩ | ⟨rfl, hJx3⟩)
      · gi_wp2
        go_roundw
        case rel => exact ⟨k + 1, pre ++ [⟨k, hlt⟩], by omega, by simp, by simp [List.range_succ, hpre], hJ3, hnx.trans hk3⟩
        case measure => simp [intOf]; omega
      · gi_wp2
        refine bodyPost_ret (results_none rfl _ _ _) rfl ?_
        exact ⟨⟨_, rfl⟩, .inr ⟨_, trivial, hJx3⟩⟩
    · obtain rfl : k = m := by omega
      gi_wp2
      go_end0
      exact ⟨⟨_, rfl⟩, .inl ⟨_, hpre, hJs⟩⟩
theorem sec_stops (n : Nat) (hn : 1 ≤ n) (S : Nat → Prop) (Bm Bb base m : Nat) (w : World) (hm : m ≤ 4096) (hbs : base ≤ 4096) (hmw : Bm < w.heap.size) (hbw : Bb < w.heap.size) (hmS : ¬ S Bm) (hbS : ¬ S Bb)
    (hcm : w.cell? ⟨Bm, 0, none⟩ = some (.int .i64 m)) (hcb : w.cell? ⟨Bb, 0, none⟩ = some (.int .i64 base)) :
    SeqStopsK Fence.wide n Tryz.prog 243 #[.pointer (some ⟨Bm, 0, none⟩), .pointer (some ⟨Bb, 0, none⟩)] (fun x : { i : Nat // i < m } => encS base x) (Upd S) (fun ys => ys.map (·.1) = List.range m) (fun _ => True) m w := fun l J Jx W hW _ _ hY h0 =>
  sec_in n hn S l Bm Bb base m hm hbs hmS hbS J Jx hY W (Nat.lt_of_lt_of_le hmw hW.size) (Nat.lt_of_lt_of_le hbw hW.size) ((hW.cell (p := ⟨Bm, 0, none⟩) hmw).trans hcm) ((hW.cell (p := ⟨Bb, 0, none⟩) hbw).trans hcb) h0
theorem sectors_any (base m : Int) (w : World) :
    Calls Tryz.prog 228 #[.int .i64 base, .int .i64 m] w fun e w' => e = .returned (.func (.func 243) #[] #[.pointer (some ⟨w.heap.size + 1, 0, none⟩), .pointer (some ⟨w.heap.size, 0, none⟩)]) ∧
      w' = (w.alloc (.cells #[.int .i64 base] 3)).alloc (.cells #[.int .i64 m] 3) := by
  have hmf : ∀ (fn : Fn) (first cap : Array Value) (w : World), (Instr.makeFunc fn first cap).run Tryz.prog w = .ok (.func fn first cap) w := fun _ _ _ _ => rfl
  go_enter Tryz.func228, Tryz.ntmps228
  go_wp2
  go_ret
  exact ⟨rfl, rfl⟩
theorem there1 {S : Nat → Prop} {w : World} {b : Nat} {F : List Bk} {O : List (Nat × Bk)} {P : List Int} (h : Dv S w b F O P) (base m : Nat) (h1 : 1 ≤ m) (h2 : base + m ≤ F.length) :
    Calls Tryz.prog 226 #[.pointer (some ⟨b, 0, none⟩), .int .i64 (base : Int), .int .i64 (m : Int), .int .i64 1] w fun e w' => e = .returned (.bool true) ∧ w = w' := by
  have hfl := h.good.fl
  have b1 : ¬ ((base : Int) > (F.length : Int)) := by omega
  have b2 : (m : Int) ≤ ((F.length : Int) - (base : Int)) := by omega
  have b3 : ¬ ((m : Int) < 1) := by omega
  have b4 : ¬ ((base : Int) < 0) := by omega
  have b5 : 0 ≤ ((F.length : Int) - (base : Int)) := by omega
  have q1 : decide ((F.length : Int) < (base : Int)) = false := by simp; omega
  go_enter Tryz.func226, Tryz.ntmps226
  go_wp2_with (first
    | (go_at_call 27; refine (dsize h).mono ?_; rintro e w' ⟨rfl, rfl⟩)
    | fail)
  go_ret
  exact ⟨rfl, rfl⟩
end Go.Proofs.YtnadilfobmgebaaGreatDoor
