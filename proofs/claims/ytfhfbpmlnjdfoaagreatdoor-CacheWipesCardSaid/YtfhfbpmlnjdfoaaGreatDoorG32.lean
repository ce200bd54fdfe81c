/- The keys of a map without entries, sorted: none. The journal: the numbers of its sectors. The load of a whole array by an operation that bears a condition. cache.Overwrite: sectors are written with noughts, and read again, where nothing is planned. A cache: Wipe, where nothing is planned; sectors that are noughts. A sector of numbers is those numbers: for any form whose numbers fit. Pages. Pages: the page of numbers. -/
import Derived.Test.YtfhfbpmlnjdfoaaGreatDoorG31
import Derived.Test.YtfhfbpmlnjdfoaaGreatDoorG14
import Derived.Test.YtfhfbpmlnjdfoaaGreatDoorG03
import Derived.Test.YtfhfbpmlnjdfoaaGreatDoorG09
import Derived.Test.YtfhfbpmlnjdfoaaGreatDoorG01
import Derived.Test.YtfhfbpmlnjdfoaaGreatDoorG24
import Derived.Test.YtfhfbpmlnjdfoaaGreatDoorG30
import Derived.Test.YtfhfbpmlnjdfoaaGreatDoorG22
import Derived.Test.YtfhfbpmlnjdfoaaGreatDoorG26
import Derived.Test.YtfhfbpmlnjdfoaaGreatDoorG27
import Derived.Test.YtfhfbpmlnjdfoaaGreatDoorG15
import Derived.Test.YtfhfbpmlnjdfoaaGreatDoorG16
import Derived.Test.YtfhfbpmlnjdfoaaGreatDoorG10
namespace Go.Proofs.YtfhfbpmlnjdfoaaGreatDoor
open Go Go.RowKit Go.Shelf
attribute [local go_sem] Oper.semAt_some
theorem akeys (mb : Nat) (w : World) : Calls Tryz.prog 170 #[.map (some mb)] w fun e w' => e = .returned (.func (.func 244) #[] #[.pointer (some ⟨w.heap.size, 0, none⟩)]) ∧ w' = w.alloc (.cells #[.map (some mb)] 116) := by
  have hmf : ∀ (fn : Fn) (first cap : Array Value) (w : World), (Instr.makeFunc fn first cap).run Tryz.prog w = .ok (.func fn first cap) w := fun _ _ _ _ => rfl
  go_enter Tryz.func170, Tryz.ntmps170
  go_wp2
  go_ret
  exact ⟨rfl, rfl⟩
abbrev encN (x : Int) : Array Value := #[.int .i64 x]
set_option maxRecDepth 100000 in
theorem keys0_stops (n : Nat) (S : Nat → Prop) (q mb : Nat) (w : World) (hq : w.heap[q]? = some (.cells #[.map (some mb)] 116 (0, 0))) (hm : MapG (Value.int .i64) w mb 0 (fun _ => none)) :
    SeqStopsK Fence.wide n Tryz.prog 244 #[.pointer (some ⟨q, 0, none⟩)] encN (Upd S) (fun ys => ys = []) (fun pre => pre <+: []) 0 w := fun l J Jx W hW hJ _ hY h0 => by
  refine callsIn_of_wp Tryz.func244 rfl trivial ?_ rfl
  simp only [Tryz.ntmps244, List.size_toArray, List.length_cons, List.length_nil, Nat.reduceAdd, Nat.reduceSub, Array.replicate_succ, Array.replicate_zero, List.push_toArray, List.append_toArray, List.nil_append, List.cons_append]
  refine wpIn_wide.2 ?_
  have c0 : W.cell? ⟨q, 0, none⟩ = some (.map (some mb)) := (hW.cell (p := ⟨q, 0, none⟩) (lt_of_block hq)).trans (by rw [cell_of_block hq]; rfl)
  have HM := Lib.hid (hm.keep (Upd.of_below (S := fun _ => False) hW) (fun h => h))
  go_wp2_with (first
    | (at_range; refine wpList_range_G rfl _ 116 rfl Tryz.underlying116 rfl HM.out ?_; intro w6 hrg hu6 z6; refine Stop.i ?_)
    | fail)
  have hJ6 : J [] w6 := hJ [] W w6 none h0 ⟨hu6.os, hu6.tape, hu6.output, hu6.size, fun k hk _ => hu6.block k hk (fun h => h)⟩ (fun r e => by cases e)
  obtain ⟨cnt, hcN, hrg⟩ := hrg
  unfold Stop
  go_wp2_with fail
  go_loopg [] 0 (fun gk wr => wr = w6)
  case atStart => rfl
  case round =>
    have hwr := hrel
    subst hwr
    go_wp2_with (first
      | (at_next; refine wpList_next_G rfl _ rfl rfl hrg (fun hl0 => Stop.i ?_) (fun x en w7 hlx hfx hcc hu7 hs7 hen => absurd hlx (by simp)))
      | fail)
    unfold Stop
    go_wp2
    go_end0
    exact ⟨⟨_, rfl⟩, .inl ⟨_, rfl, hJ6⟩⟩
set_option maxRecDepth 100000 in
set_option maxHeartbeats 1000000 in
theorem aappend0 (q mb : Nat) (w : World) (hq : w.heap[q]? = some (.cells #[.map (some mb)] 116 (0, 0))) (hm : MapG (Value.int .i64) w mb 0 (fun _ => none)) :
    Calls Tryz.prog 305 #[.slice none 0 0, .func (.func 244) #[] #[.pointer (some ⟨q, 0, none⟩)]] w fun e w' => e = .returned (.slice none 0 0) ∧ Below w.heap.size w w' := by
  obtain ⟨w1, hw1⟩ : ∃ w1, w1 = w.alloc (.cells #[.slice none 0 0] 87) := ⟨_, rfl⟩
  have hb1 : Below w.heap.size w w1 := by rw [hw1]; exact (Below.refl _ w).alloc (Nat.le_refl _) _
  have bO : Boxed w1 w.heap.size 87 (.slice none 0 0) := by rw [hw1]; exact Boxed.new w _ _
  have z1 : w1.heap.size = w.heap.size + 1 := by rw [hw1]; simp
  have hq1 := (hb1.block q (lt_of_block hq)).trans hq
  have hm1 := hm.keep (Upd.of_below (S := fun _ => False) hb1) (fun h => h)
  have HW := Lib.hid hw1
  clear hw1
  refine (callsIn_wide (n := 3)).1 ?_
  refine callsIn_of_wp_marks Tryz.func305 rfl trivial ?_ rfl
  simp only [Tryz.ntmps305, List.size_toArray, List.length_cons, List.length_nil, Nat.reduceAdd, Nat.reduceSub, Array.replicate_succ, Array.replicate_zero, List.push_toArray, List.append_toArray, List.nil_append, List.cons_append]
  gi_wp2
  rw [← HW.out]
  refine wpIn_rangeFunc_ownH rfl (by omega) (gf := 244) (lb := #[.pointer (some ⟨q, 0, none⟩)]) rfl trivial (enters_of Tryz.func244 (by kernel_rfl) rfl)
    (keys0_stops _ (fun j => w1.heap.size ≤ j) q mb w1 hq1 hm1) supd_t (fun W l o o' hl => supd_b (M := w1.heap.size) (fun j h => h) W l o o' (by omega)) (Below.refl _ _) (fun _ => rfl)
    (fun pre W => Boxed W w.heap.size 87 (.slice none 0 0) ∧ Below w.heap.size w W)
    (fun _ _ _ => False)
    (OwnFrom.and (Own.from (I := fun (s : List Int) A => Boxed A w.heap.size 87 (.slice none 0 0)) (fun s A B row hs hg hr => sboxed_kept hs hg hr) _) (ownFrom_below (Nat.le_refl _) (by omega)))
    (fun _ _ _ _ _ hs _ _ => hs)
    ⟨bO, hb1⟩
    (fun _ _ _ => True)
    (fun _ _ => fun _ _ _ _ _ _ _ => trivial)
    ?assign ?body ?done ?stop
  case assign =>
    intro l pre x W K hI hK
    gi_wp2
    exact hK _ _ (KeepsFrom.refl _ _) (Upd.refl _ _) hI trivial
  case body =>
    intro l pre x a' W hl _ _ _ hlt
    simp at hlt
  case done =>
    rintro D ys W hD rfl ⟨hv, hB⟩ hK
    have hc := hv.cell
    gi_wp2
    refine ⟨by simp, .inl ⟨_, _, rfl, run_takeDeferred hK, ?_⟩⟩
    exact ⟨_, results_tmp rfl _ _ _, rfl, hB.trans (belowK_b (w := w) (Nat.le_refl _) W D _ _ (by omega) hK rfl rfl)⟩
  case stop =>
    rintro D c pre W _ _ h _
    exact h.elim
set_option maxRecDepth 100000 in
theorem isort0 (w : World) : Calls Tryz.prog 327 #[.slice none 0 0, .int .i64 0, .int .i64 0] w fun e w' => e = .returned (.tuple #[]) ∧ w' = w := by
  go_enter Tryz.func327, Tryz.ntmps327
  go_wp2_with fail
  go_loopg [6] 0 (fun gk i wr => i = .int .i64 1 ∧ wr = w)
  case atStart => exact ⟨rfl, rfl⟩
  case round =>
    obtain ⟨rfl, hwr⟩ := hrel
    subst hwr
    go_wp2
    go_end0
    exact ⟨rfl, rfl⟩
set_option maxRecDepth 100000 in
theorem apdq0 (k : Int) (w : World) : Calls Tryz.prog 306 #[.slice none 0 0, .int .i64 0, .int .i64 0, .int .i64 k] w fun e w' => e = .returned (.tuple #[]) ∧ w' = w := by
  have HI := Lib.hid (isort0 w)
  go_enter Tryz.func306, Tryz.ntmps306
  go_wp2_with fail
  go_loopg [1, 2, 3] 0 (fun gk s1 s2 s3 wr => s1 = .int .i64 0 ∧ s2 = .int .i64 0 ∧ wr = w)
  case atStart => exact ⟨rfl, rfl, rfl⟩
  case round =>
    obtain ⟨rfl, rfl, hwr⟩ := hrel
    subst hwr
    go_wp2_with fail
    refine HI.out.mono ?_
    rintro e w' ⟨rfl, rfl⟩
    go_wp2
    refine bodyPost_ret (results_none rfl _ _ _) rfl ?_
    exact ⟨rfl, rfl⟩
set_option maxRecDepth 100000 in
theorem alen64 (w : World) : Calls Tryz.prog 190 #[.int .u64 0] w fun e w' => ∃ k : Int, e = .returned (.int .i64 k) ∧ w' = w := by
  go_enter Tryz.func190, Tryz.ntmps190
  go_wp2
  go_ret
  exact ⟨_, rfl, rfl⟩
set_option maxRecDepth 100000 in
theorem alen0 (w : World) : Calls Tryz.prog 118 #[.int .u64 0] w fun e w' => ∃ k : Int, e = .returned (.int .i64 k) ∧ w' = w := by
  have HI := Lib.hid (alen64 w)
  go_enter Tryz.func118, Tryz.ntmps118
  go_wp2_with fail
  refine HI.out.mono ?_
  rintro e w' ⟨k, rfl, rfl⟩
  go_wp2
  go_ret
  exact ⟨_, rfl, rfl⟩
set_option maxRecDepth 100000 in
theorem asort0 (w : World) : Calls Tryz.prog 243 #[.slice none 0 0] w fun e w' => e = .returned (.tuple #[]) ∧ w' = w := by
  have HI := Lib.hid (alen0 w)
  go_enter Tryz.func243, Tryz.ntmps243
  go_wp2_with fail
  refine HI.out.mono ?_
  rintro e w' ⟨k, rfl, rfl⟩
  have HP := Lib.hid (apdq0 k w')
  clear HI
  go_wp2_with fail
  refine HP.out.mono ?_
  rintro e w2 ⟨rfl, rfl⟩
  go_wp2
  go_end0
  exact ⟨rfl, rfl⟩
set_option maxRecDepth 100000 in
theorem asorted0 (q mb : Nat) (w : World) (hq : w.heap[q]? = some (.cells #[.map (some mb)] 116 (0, 0))) (hm : MapG (Value.int .i64) w mb 0 (fun _ => none)) :
    Calls Tryz.prog 169 #[.func (.func 244) #[] #[.pointer (some ⟨q, 0, none⟩)]] w fun e w' => e = .returned (.slice none 0 0) ∧ Below w.heap.size w w' := by
  have HA := Lib.hid (aappend0 q mb w hq hm)
  have HC : Hid (Calls Tryz.prog 242 #[.func (.func 244) #[] #[.pointer (some ⟨q, 0, none⟩)]] w fun e w' => e = .returned (.slice none 0 0) ∧ Below w.heap.size w w') := by
    show Calls _ _ _ _ _
    clear hq hm
    go_enter Tryz.func242, Tryz.ntmps242
    go_wp2_with fail
    refine HA.out.mono ?_
    rintro e w' ⟨rfl, hb⟩
    have HB := Lib.hid hb
    clear hb
    go_wp2
    go_ret
    exact ⟨rfl, HB.out⟩
  clear hq hm HA
  go_enter Tryz.func169, Tryz.ntmps169
  go_wp2_with fail
  refine HC.out.mono ?_
  rintro e w' ⟨rfl, hb⟩
  have HB := Lib.hid hb
  have HS := Lib.hid (asort0 w')
  clear hb HC
  go_wp2_with fail
  refine HS.out.mono ?_
  rintro e w2 ⟨rfl, rfl⟩
  go_wp2
  go_ret
  exact ⟨rfl, HB.out⟩
end Go.Proofs.YtfhfbpmlnjdfoaaGreatDoor
namespace Go.Proofs.YtfhfbpmlnjdfoaaGreatDoor
open Go Go.RowKit
def secL (base n k : Nat) : List Int := (List.range n).map fun i => if i < k then ((base + i : Nat) : Int) else 0
theorem secL_len (base n k : Nat) : (secL base n k).length = n := by simp [secL]
theorem secL_zero (base n : Nat) : secL base n 0 = List.replicate n 0 := by
  apply List.ext_getElem
  · simp [secL]
  · intro i h1 h2; simp [secL]
theorem secL_set (base n : Nat) {k : Nat} (_hk : k < n) : (secL base n k).set k ((base + k : Nat) : Int) = secL base n (k + 1) := by
  apply List.ext_getElem
  · simp [secL]
  · intro i h1 h2
    rw [List.getElem_set]
    simp only [secL, List.getElem_map, List.getElem_range]
    by_cases h : k = i
    · subst h; simp
    · rw [if_neg h]
      by_cases hl : i < k
      · rw [if_pos hl, if_pos (by omega)]
      · rw [if_neg hl, if_neg (by omega)]
set_option maxRecDepth 100000 in
set_option maxHeartbeats 1000000 in
theorem jsectors (base n : Nat) (hn : n ≤ 1024) (hb : base ≤ 4096) (w : World) :
    Calls Tryz.prog 105 #[.int .i64 (base : Int), .int .i64 (n : Int)] w fun e w' => ∃ g, e = .returned (.slice (some ⟨g, 0, none⟩) n n) ∧ w'.heap[g]? = some (.cells (ints (secL base n n)).toArray 3 (0, 0)) ∧ w.heap.size ≤ g ∧ Below w.heap.size w w' := by
  have hmk := makeInts n (by omega) w
  obtain ⟨w1, hw1⟩ : ∃ w1, w1 = w.alloc (.cells (ints (List.replicate n 0)).toArray 3) := ⟨_, rfl⟩
  have hg := heap_alloc_last w (.cells (ints (List.replicate n 0)).toArray 3) rfl
  have hb1 : Below w.heap.size w w1 := by rw [hw1]; exact (Below.refl _ w).alloc (Nat.le_refl _) _
  rw [← hw1, ← secL_zero base n] at hg
  have HW := Lib.hid (And.intro hw1 (And.intro hg hb1))
  obtain ⟨G, hG⟩ : ∃ G, G = w.heap.size := ⟨_, rfl⟩
  have HGG := Lib.hid hG
  clear hg hb1 hw1 hG
  go_enter Tryz.func105, Tryz.ntmps105
  go_upto_region 2 with fail
  rw [← HW.out.1, ← HGG.out]
  clear hmk
  go_wp2_with fail
  go_loopg [11] n (fun gk s11 wr => ∃ k : Nat, k + gk = n ∧ s11 = .int .i64 (k : Int) ∧ wr.heap[G]? = some (.cells (ints (secL base n k)).toArray 3 (0, 0)) ∧ Upd (fun j => j = G) w1 wr)
  case atStart => exact ⟨0, by omega, rfl, by rw [HGG.out]; exact HW.out.2.1, Upd.refl _ _⟩
  case round =>
    obtain ⟨k, hk, rfl, hg, hu⟩ := hrel
    by_cases hlt : k < n
    · have k1 : (k : Int) < (n : Int) := by omega
      have k0 : (0 : Int) ≤ (k : Int) := by omega
      have f0 := frozen_of_block hg k
      have c0 : ∃ v, wr.cell? ⟨G, k, none⟩ = some v := by
        rw [cell_of_block hg, Array.getElem?_eq_getElem (by rw [List.size_toArray, length_ints, secL_len]; omega)]
        exact ⟨_, rfl⟩
      obtain ⟨v0, c0⟩ := c0
      have hgs := heap_setCell_same hg k (.int .i64 ((base + k : Nat) : Int))
      rw [List.setIfInBounds_toArray, ints_set, secL_set base n hlt] at hgs
      have hus := hu.trans (upd_setCell wr G k (.int .i64 ((base + k : Nat) : Int)))
      have e1 : ((base + k : Nat) : Int) = (base : Int) + (k : Int) := by simp
      rw [e1] at hgs hus
      have HN := Lib.hid (And.intro hgs hus)
      clear hg hu hgs hus e1
      go_wp2_with fail
      go_roundg (gk - 1)
      case measure => omega
      case rel => exact ⟨k + 1, by omega, by go_num, HN.out.1, HN.out.2⟩
    · obtain rfl : k = n := by omega
      have k1 : ¬ ((k : Int) < (k : Int)) := by omega
      have HN := Lib.hid (And.intro hg hu)
      clear hg hu
      go_wp2_with fail
      go_ret
      exact ⟨G, rfl, HN.out.1, Nat.le_of_eq HGG.out.symm, below_upd HW.out.2.2 HN.out.2 (Nat.le_refl _) (fun j hj => Nat.le_of_eq (by rw [hj, HGG.out]))⟩
theorem wpList_load_midW {P : Program} {ops : Array Oper} {rest : List Oper} {op : Oper} {a : Act} {w : World} {Q : Exit → Act → World → Prop} (hw : Region.wanted op (yielded ops a.tmps) = true) (ty : TypeId) (x : Operand) (ho : op.op = .load ty x)
    (b o : Nat) (hx : a.eval x = .pointer (some ⟨b, o, none⟩)) (cs : List Value) (d : TypeDesc) (hc : w.rangeAt b o cs)
    (hu : P.underlying ty = some d) (hd : d.isRow = true) (hi : (P.info? ty).map (·.size) = some cs.length)
    (h : wpList P ops Q rest (a.put op.dst (.agg cs.toArray)) w) : wpList P ops Q (op :: rest) a w :=
  wpList_step fun K hK => by rw [if_pos hw]; exact wp_load_mid ty x ho b o hx cs d hc hu hd hi (hK _ _ h)
theorem flushR_nil' (F : List Bk) (O : List (Nat × Bk)) : flushR F O [] = ⟨flushF F O, [], [], 0⟩ := rfl
theorem writeR_nil' (F : List Bk) (O : List (Nat × Bk)) (t : Nat) (y : Bk) : writeR F O [] t y = ⟨F, O ++ [(t, y)], [], 0⟩ := rfl
def zsW (base k : Nat) : List (Nat × Bk) := (List.range k).map fun i => (base + i, zB)
theorem zsW_succ (base k : Nat) : zsW base (k + 1) = zsW base k ++ [(base + k, zB)] := by simp [zsW, List.range_succ]
theorem zsW_len (base k : Nat) : (zsW base k).length = k := by simp [zsW]
theorem flush_zs (A : List Bk) (O : List (Nat × Bk)) (base : Nat) : ∀ k s, (flushF A (O ++ zsW base k)).getD s zB = if base ≤ s ∧ s < base + k ∧ s < A.length then zB else (flushF A O).getD s zB
  | 0, s => by rw [if_neg (by omega)]; simp [zsW]
  | k + 1, s => by
    rw [zsW_succ, ← List.append_assoc, flushF_snoc, getD_set, flush_zs A O base k s, flushF_len]
    by_cases h : base + k = s ∧ base + k < A.length
    · rw [if_pos h, if_pos (by omega)]
    · rw [if_neg h]
      by_cases h2 : base ≤ s ∧ s < base + k ∧ s < A.length
      · rw [if_pos h2, if_pos (by omega)]
      · rw [if_neg h2, if_neg (by omega)]
theorem curB_zs (F : List Bk) (O : List (Nat × Bk)) {base m k : Nat} (hk : k < m) (hF : base + m ≤ F.length) : curB (flushF F (O ++ zsW base m)) [] (base + k) = zB := by
  show (flushF F (O ++ zsW base m)).getD (base + k) zB = zB
  rw [flush_zs, if_pos (by omega)]
theorem wpList_buildZW {ops : Array Oper} {rest : List Oper} {op : Oper} {a : Act} {w : World} {Q : Exit → Act → World → Prop} (hw : Region.wanted op (yielded ops a.tmps) = true) (ho : op.op = .build 54 #[]) {Z : Bk}
    (hrun : ∀ w : World, (Instr.build 54 #[]).run Tryz.prog w = .ok (.agg (bkC Z).toArray) w)
    (h : wpList Tryz.prog ops Q rest (a.put op.dst (.agg (bkC Z).toArray)) w) : wpList Tryz.prog ops Q (op :: rest) a w :=
  wpList_step fun K hK => by
    rw [if_pos hw]
    unfold Oper.wp
    simp only [execOp, ho, List.map_toArray, List.map_nil, Sem.run_bind, hrun, Result.andThen_ok]
    exact hK _ _ h
set_option maxRecDepth 100000 in
set_option maxHeartbeats 2000000 in
theorem overw {S : Nat → Prop} {w : World} {b g base m : Nat} {F : List Bk} {O : List (Nat × Bk)} (hd : Dv S w b F O []) (hn : ∀ j, w.heap.size ≤ j → S j) (hg : w.heap[g]? = some (.cells (ints (secL base m m)).toArray 3 (0, 0))) (hgS : ¬ S g)
    (hm : m ≤ 1024) (hF : base + m ≤ F.length) (hO : O.length + m ≤ 65536) :
    Calls Tryz.prog 95 #[.pointer (some ⟨b, 0, none⟩), .slice (some ⟨g, 0, none⟩) m m] w fun e w' => e = .returned (.tuple #[.slice none 0 0, .int .i64 0]) ∧ Dv S w' b (flushF F (O ++ zsW base m)) [] [] ∧ Upd S w w' := by
  obtain ⟨w1, hw1⟩ : ∃ w1, w1 = w.alloc (.map #[] 0) := ⟨_, rfl⟩
  have hu1 : Upd (fun _ => False) w w1 := by rw [hw1]; exact (Upd.refl _ w).alloc _
  have z1 : w1.heap.size = w.heap.size + 1 := by rw [hw1]; simp
  have hm1 : MapG (Value.int .i64) w1 w.heap.size 0 (fun _ => none) := by rw [hw1]; exact MapG.made w
  obtain ⟨T, hT⟩ : ∃ T : Nat → Prop, T = fun j => (S j ∧ j < w.heap.size) ∨ w1.heap.size ≤ j := ⟨_, rfl⟩
  have d1 : Dv T w1 b F O [] := by rw [hT]; exact ((hd.shrink (T := fun j => S j ∧ j < w.heap.size) (fun j h1 h2 => ⟨h1, h2⟩)).keep hu1 (fun _ _ h => h)).wide (fun j h => .inl h)
  have hTn : ∀ j, w1.heap.size ≤ j → T j := fun j hj => by rw [hT]; exact .inr hj
  have hTS : ∀ j, T j → S j := fun j hj => by rw [hT] at hj; exact hj.elim (fun h => h.1) (fun h => hn j (by omega))
  have hgl := lt_of_block hg
  have hTg : ¬ T g := fun h => hgS (hTS g h)
  have hTm : ¬ T w.heap.size := fun h => by rw [hT] at h; rcases h with h | h <;> omega
  have hg1 := (hu1.block g hgl (fun h => h)).trans hg
  have hcell : ∀ {W : World}, Upd T w1 W → ∀ k, k < m → W.cell? ⟨g, k, none⟩ = some (.int .i64 ((base : Int) + (k : Int))) := fun {W} hu k hk => by
    rw [cell_of_block ((hu.block g (lt_of_block hg1) hTg).trans hg1)]
    simp [ints, secL, hk]
  obtain ⟨mb, hmb⟩ : ∃ mb, mb = w.heap.size := ⟨_, rfl⟩
  rw [← hmb] at hm1 hTm
  obtain ⟨Z, hZ⟩ : ∃ Z, Z = zB := ⟨_, rfl⟩
  have hZl : Z.length = 64 := by rw [hZ]; rfl
  have HZ := Lib.hid (And.intro hZ (buildZ_run Z hZ))
  have H := Lib.hid (And.intro hd (And.intro hn (And.intro hu1 (And.intro z1 (And.intro hm1 (And.intro d1 (And.intro hTn (And.intro hTS (And.intro hTg hTm)))))))))
  have HL := Lib.hid (And.intro @hcell (And.intro hm (And.intro hF hO)))
  have HW := Lib.hid (And.intro hw1 hmb)
  clear hd hn hu1 z1 hm1 d1 hTn hTS hTg hTm hcell hg1 hgl hg hgS hT hw1 hmb hZ
  have hmm := @run_makeMap Tryz.prog
  go_enter Tryz.func95, Tryz.ntmps95
  go_wp2_with fail
  rw [← HW.out.1, ← HW.out.2]
  clear hmm
  go_loopg [19] m (fun gk s19 wr => ∃ k : Nat, k + gk = m ∧ s19 = .int .i64 (k : Int) ∧ Dv T wr b F (O ++ zsW base k) [] ∧ Upd T w1 wr)
  case atStart => exact ⟨0, by omega, rfl, by simpa [zsW] using H.out.2.2.2.2.2.1, Upd.refl _ _⟩
  case round =>
    obtain ⟨k, hk, rfl, hdk, huk⟩ := hrel
    by_cases hlt : k < m
    · have k1 : (k : Int) < (m : Int) := by omega
      have k0 : (0 : Int) ≤ (k : Int) := by omega
      have hc := HL.out.1 huk k hlt
      have hwr := dwriteR hdk (fun j hj => H.out.2.2.2.2.2.2.1 j (Nat.le_trans huk.size hj)) (base + k) (by have := HL.out.2.2.1; omega) Z hZl (by rw [List.length_append, zsW_len]; have := HL.out.2.2.2; omega)
      rw [show writeR F (O ++ zsW base k) [] (base + k) Z = ⟨F, O ++ zsW base (k + 1), [], 0⟩ by rw [writeR_nil', zsW_succ, List.append_assoc, HZ.out.1], Int.natCast_add] at hwr
      have HK := Lib.hid (And.intro huk hwr)
      clear hdk huk hwr hlt
      go_wp2_with (first
        | (refine wpList_buildZ rfl rfl HZ.out.2 ?_)
        | fail)
      refine HK.out.2.mono ?_
      rintro e w3 ⟨rfl, hd3, hu3⟩
      have H3 := Lib.hid (And.intro hd3 (HK.out.1.trans hu3))
      clear hd3 hu3 hc
      dsimp only
      go_wp2_with fail
      go_roundg (gk - 1)
      case measure => omega
      case rel => exact ⟨k + 1, by omega, by go_num, H3.out.1, H3.out.2⟩
    · obtain rfl : k = m := by omega
      have k1 : ¬ ((k : Int) < (k : Int)) := by omega
      have HFl := Lib.hid (dflushR hdk (fun j hj => H.out.2.2.2.2.2.2.1 j (Nat.le_trans huk.size hj)))
      have HK := Lib.hid huk
      clear hdk huk hlt
      go_wp2_with fail
      refine HFl.out.mono ?_
      rw [flushR_nil']
      rintro e w3 ⟨rfl, hd3, hu3⟩
      dsimp only at hd3
      have H3 := Lib.hid (And.intro hd3 (HK.out.trans hu3))
      clear hd3 hu3 HFl k1
      dsimp only
      go_wp2_with fail
      go_loopg [40] k (fun gk s40 wr => ∃ i : Nat, i + gk = k ∧ s40 = .int .i64 (i : Int) ∧ Dv T wr b (flushF F (O ++ zsW base k)) [] [] ∧ Upd T w1 wr)
      case atStart => exact ⟨0, by omega, rfl, H3.out.1, H3.out.2⟩
      case round =>
        obtain ⟨i, hi, rfl, hdk, huk⟩ := hrel
        by_cases hlt : i < k
        · have k1 : (i : Int) < (k : Int) := by omega
          have k0 : (0 : Int) ≤ (i : Int) := by omega
          have hc := HL.out.1 huk i hlt
          have hrd := dreadR hdk (fun j hj => H.out.2.2.2.2.2.2.1 j (Nat.le_trans huk.size hj)) (base + i) (by rw [flushF_len]; have := HL.out.2.2.1; omega)
          rw [Int.natCast_add] at hrd
          have hcz := curB_zs F O hlt HL.out.2.2.1
          have HK := Lib.hid (And.intro huk (And.intro hrd hcz))
          clear hdk huk hrd hlt hcz
          go_wp2_with fail
          refine HK.out.2.1.mono ?_
          rintro e w3 ⟨y, cd, rfl, hy, hcd, hyl, hd3, hu3⟩
          rw [if_neg (by decide)] at hcd
          rw [if_neg (by decide), HK.out.2.2] at hy
          subst hcd
          obtain ⟨w4, hw4⟩ : ∃ w4, w4 = w3.alloc (.cells (bkC y).toArray 54) := ⟨_, rfl⟩
          have hu4 : Upd (fun _ => False) w3 w4 := by rw [hw4]; exact (Upd.refl _ w3).alloc _
          have g4 : w4.heap[w3.heap.size]? = some (.cells (bkC y).toArray 54 (0, 0)) := by rw [hw4]; exact heap_alloc_last w3 _ rfl
          obtain ⟨gb, hgb⟩ : ∃ gb, gb = w3.heap.size := ⟨_, rfl⟩
          rw [← hgb] at g4
          have r4 := range_of_block g4
          have hsi := sizeBk y hyl
          have hneq : ∀ W : World, (binOp .neq 54 (.agg (bkC y).toArray) (.agg (bkC Z).toArray)).run Tryz.prog W = .ok (.bool false) W := by
            intro W; rw [run_neq_bk _ _ hyl hZl, HZ.out.1, hy]; simp
          have hT4 : ∀ j, T j → j = gb → False ∨ True := fun _ _ _ => .inr trivial
          have H4 := Lib.hid (And.intro (hd3.keep hu4 (fun _ _ h => h)) (HK.out.1.trans (hu3.trans (hu4.mono (fun _ _ h => h.elim)))))
          have HW4 := Lib.hid (And.intro hw4 hgb)
          clear hd3 hu3 hu4 g4 hw4 hgb hy hT4 hc
          go_wp2_with (first
            | (refine wpList_store_new rfl _ _ _ rfl _ _ (bkC y) rfl rfl (by rw [bkC_len, hyl]; rfl) hsi (bkC_one y) ?_; refine Stop.i ?_)
            | fail)
          rw [← HW4.out.1, ← HW4.out.2]
          unfold Stop
          go_wp2_with (first
            | (refine wpList_load_midW (by rfl) _ _ rfl _ _ rfl _ _ r4 Tryz.underlying54 rfl hsi ?_)
            | (refine wpList_buildZW (by rfl) rfl HZ.out.2 ?_)
            | fail)
          go_roundg (gk - 1)
          case measure => omega
          case rel => exact ⟨i + 1, by omega, by go_num, H4.out.1, H4.out.2⟩
        · obtain rfl : i = k := by omega
          have k1 : ¬ ((i : Int) < (i : Int)) := by omega
          have hmk := H.out.2.2.2.2.1.keep huk H.out.2.2.2.2.2.2.2.2.2
          have HKy := Lib.hid (akeys mb wr)
          have HK := Lib.hid (And.intro hdk (And.intro huk hmk))
          clear hdk huk hmk hlt
          go_wp2_with fail
          refine HKy.out.mono ?_
          rintro e w5 ⟨rfl, hw5⟩
          have hu5 : Upd (fun _ => False) wr w5 := by rw [hw5]; exact (Upd.refl _ wr).alloc _
          have g5 : w5.heap[wr.heap.size]? = some (.cells #[.map (some mb)] 116 (0, 0)) := by rw [hw5]; exact heap_alloc_last wr _ rfl
          have HS := Lib.hid (asorted0 wr.heap.size mb w5 g5 (HK.out.2.2.keep hu5 (fun h => h)))
          have H5 := Lib.hid hu5
          clear hw5 hu5 g5 HKy
          go_wp2_with fail
          refine HS.out.mono ?_
          rintro e w6 ⟨rfl, hb6⟩
          have hu6 := H5.out.trans (Upd.of_below (S := fun _ => False) hb6)
          have hd6 := HK.out.1.keep hu6 (fun _ _ h => h)
          have H6 := Lib.hid (And.intro (hd6.wide H.out.2.2.2.2.2.2.2.1) (HK.out.2.1.trans (hu6.mono (fun _ _ h => h.elim))))
          clear hb6 hu6 hd6 HS
          go_wp2
          go_ret2
          have hu1 := H.out.2.2.1
          exact ⟨rfl, H6.out.1, (hu1.mono (fun _ _ h => h.elim)).trans (H6.out.2.mono (fun j _ h => H.out.2.2.2.2.2.2.2.1 j h))⟩
def CaS.ckN (n : CaN) (a : CaS) : Nat → CaS
  | 0 => a
  | k + 1 => ((a.ckN n k).ckpt n).1
def CaS.wiped (n : CaN) (a : CaS) : CaS := { a.ckN n 2 with dF := flushF (a.ckN n 2).dF ((a.ckN n 2).dO ++ zsW (1 + 2 * n.pa) n.jo), dO := [], dP := [] }
section
variable {n : CaN} {a : CaS}
theorem wrsR_O0 (F : List Bk) (L : List (Nat × Bk)) : ∀ O, wrsR F L O [] = ⟨F, O ++ L, [], 0⟩ := by
  induction L with
  | nil => intro O; simp [wrsR]
  | cons x L ih => intro O; rw [wrsR, writeR_nil]; dsimp only; rw [if_pos rfl, ih]; simp
theorem saveR_0 (F : List Bk) (O L : List (Nat × Bk)) : saveR F O [] L = ⟨flushF F (O ++ L), [], [], 0⟩ := by
  unfold saveR
  rw [wrsR_O0, if_pos rfl, flushR_nil]
theorem CaS.NoP.ckpt_eq (h : a.NoP) : a.ckpt n = ({ a with bF := flushF a.bF a.bO, bO := [], bP := [], dF := flushF (flushF a.dF a.dO) (ckO (1 + (1 - a.which) * n.pa) n.pa (pagesB (a.next - 1) (a.ents n))), dO := [], dP := [], which := 1 - a.which, cov := a.next - 1, W := [], st := freeTo a.st (pos a.st 3) }, 0) := by
  obtain ⟨h1, h2⟩ := h
  have e1 : flushR a.bF a.bO a.bP = ⟨flushF a.bF a.bO, [], [], 0⟩ := by rw [h2]; rfl
  have e2 : flushR a.fb.dF a.fb.dO a.fb.dP = ⟨flushF a.dF a.dO, [], [], 0⟩ := by show flushR a.dF a.dO a.dP = _; rw [h1]; rfl
  have e3 : a.fb.fd.svR n = ⟨flushF (flushF a.dF a.dO) (ckO (1 + (1 - a.which) * n.pa) n.pa (pagesB (a.next - 1) (a.ents n))), [], [], 0⟩ := by
    have : a.fb.fd.svR n = saveR (flushR a.dF a.dO a.dP).F (flushR a.dF a.dO a.dP).O (flushR a.dF a.dO a.dP).P (ckO (1 + (1 - a.which) * n.pa) n.pa (pagesB (a.next - 1) (a.ents n))) := rfl
    rw [this, h1]
    exact saveR_0 _ _ _
  unfold CaS.ckpt
  rw [if_neg (by rw [e1]; exact fun h => h rfl), if_neg (by rw [e2]; exact fun h => h rfl), if_neg (by rw [e3]; exact fun h => h rfl)]
  refine Prod.ext ?_ rfl
  show a.fb.fd.ckd n = _
  unfold CaS.ckd
  rw [e3]
  show ({ a.fb.fd with dF := _, dO := _, dP := _, which := _, cov := _, W := _, st := _ } : CaS) = _
  have e4 : a.fb.fd = { a with bF := flushF a.bF a.bO, bO := [], bP := [], dF := flushF a.dF a.dO, dO := [], dP := [] } := by
    unfold CaS.fd CaS.fb
    rw [e1]
    show ({ a with bF := _, bO := _, bP := _, dF := (flushR a.dF a.dO a.dP).F, dO := (flushR a.dF a.dO a.dP).O, dP := (flushR a.dF a.dO a.dP).P } : CaS) = _
    rw [h1]
    rfl
  rw [e4]
theorem CaS.NoP.ckN (h : a.NoP) (hO : a.dO.length ≤ 50000) : ∀ k, (a.ckN n k).NoP ∧ (a.ckN n k).sums = a.sums ∧ (a.ckN n k).dO.length ≤ 50000 ∧ (a.ckN n k).next = a.next ∧ (a.ckN n k).ps = a.ps
  | 0 => ⟨h, rfl, hO, rfl, rfl⟩
  | k + 1 => by
    obtain ⟨h1, h2, h3, h4, h5⟩ := CaS.NoP.ckN h hO k
    show ((((a.ckN n k).ckpt n).1).NoP) ∧ ((a.ckN n k).ckpt n).1.sums = _ ∧ ((a.ckN n k).ckpt n).1.dO.length ≤ _ ∧ ((a.ckN n k).ckpt n).1.next = _ ∧ ((a.ckN n k).ckpt n).1.ps = _
    rw [h1.ckpt_eq]
    exact ⟨⟨rfl, rfl⟩, h2, Nat.zero_le _, h4, h5⟩
end
section
variable {own : Nat → Nat} {w w' : World} {c : Nat} {n : CaN} {p : CaP} {a : CaS}
set_option maxRecDepth 100000 in
theorem ca_jsecs (h : CaAt own w c n p a) : Calls Tryz.prog 96 #[ptr p.jr] w fun e w' => ∃ g, e = .returned (.slice (some ⟨g, 0, none⟩) n.jo n.jo) ∧ w'.heap[g]? = some (.cells (ints (secL (1 + 2 * n.pa) n.jo n.jo)).toArray 3 (0, 0)) ∧ w.heap.size ≤ g ∧ Upd (fun _ => False) w w' := by
  obtain ⟨v, hj, -⟩ := h.jr
  obtain ⟨-, c1, c2, -, -, -⟩ := hj.c
  have H := Lib.hid h.ok
  clear hj h
  go_enter Tryz.func96, Tryz.ntmps96
  go_wp2_with fail
  refine wp_region_held_drew (S := fun W => W.cell? ⟨p.jr, 1, none⟩ = some (.int .i64 ((1 + 2 * n.pa : Nat) : Int)) ∧ W.cell? ⟨p.jr, 2, none⟩ = some (.int .i64 (n.jo : Int))) (by kernel_rfl) (⟨by rw [World.cell?_drew]; exact c1, by rw [World.cell?_drew]; exact c2⟩) (fun hHeld => ?_)
  refine Wl.i [0, 1, 2, 3, 4, 5, 6, 7] ?_; iterate 8 refine Wl.t hHeld ?_
  refine Wl.o ?_
  refine Wl.r 8 (fun K hK => ?_)
  go_simp
  refine (jsectors (1 + 2 * n.pa) n.jo H.out.j2 (by have := H.out.z; unfold CaN.size at this; omega) w.drew).mono ?_
  rintro e w2 ⟨g, rfl, hg, hgw, hb⟩
  have hu : Upd (fun _ => False) w w2 := ((Upd.refl _ w).drew).trans (Upd.of_below hb)
  have HU := Lib.hid (And.intro hg (And.intro hgw hu))
  refine hK.out _ _ ⟨hu.cellv c1 (fun h => h), hu.cellv c2 (fun h => h)⟩ (fun hH2 => ?_)
  clear hK K hHeld hg hgw hu hb c1 c2
  refine Wl.i [9] (Wl.t hH2 (Wl.o ?_))
  refine Wl.d ?_
  clear hH2
  go_wp2
  go_ret
  exact ⟨g, rfl, HU.out.1, HU.out.2.1, HU.out.2.2⟩
set_option maxRecDepth 100000 in
set_option maxHeartbeats 1000000 in
theorem ca_wipe (h : CaAt own w c n p a) (hP : a.NoP) (hsm : ∀ k v, a.sums k = some v → v ≤ 4294967295) (hO : a.dO.length ≤ 50000) :
    Calls Tryz.prog 33 #[ptr c] w (CaOut own w c n p (a.wiped n) (.tuple #[.slice none 0 0, .int .i64 0])) := by
  have H := Lib.hid (And.intro h (And.intro hP (And.intro hsm hO)))
  clear h hP hsm hO
  go_enter Tryz.func33, Tryz.ntmps33
  go_wp2_with fail
  go_loopg [7] 2 (fun gk s7 wr => ∃ k : Nat, k + gk = 2 ∧ s7 = .int .i64 (k : Int) ∧ ∃ own', CaAt own' wr c n p (a.ckN n k) ∧ Did own own' w wr)
  case atStart => exact ⟨0, rfl, rfl, own, H.out.1, Did.refl H.out.1.far⟩
  case round =>
    obtain ⟨k, hk, rfl, own1, h1, d1⟩ := hrel
    obtain ⟨q1, q2, q3, q4, q5⟩ := H.out.2.1.ckN (n := n) H.out.2.2.2 k
    by_cases hlt : k < 2
    · have k1 : (k : Int) < 2 := by omega
      have hck := ca_ckpt h1 (by rw [q2]; exact H.out.2.2.1) q3
      rw [q1.ckpt] at hck
      have HC := Lib.hid (And.intro hck d1)
      clear h1 d1 q1 q2 q3 q4 q5 hck hlt
      go_wp2_with fail
      refine HC.out.1.mono ?_
      rintro e w2 ⟨rfl, own2, h2, d2⟩
      have H2 := Lib.hid (And.intro h2 (HC.out.2.trans d2))
      clear h2 d2 HC
      go_wp2_with fail
      go_roundg (gk - 1)
      case measure => omega
      case rel => exact ⟨k + 1, by omega, by go_num, own2, H2.out.1, H2.out.2⟩
    · obtain rfl : k = 2 := by omega
      obtain ⟨c14, -, -, c17, -, -, -, -, -⟩ := h1.cells
      have H1 := Lib.hid (And.intro h1 (And.intro d1 (And.intro q1 q3)))
      clear h1 d1 q1 q2 q3 q4 q5 hlt
      go_wp2_with fail
      refine wp_region_held_drew (S := fun W => W.cell? ⟨c, 14, none⟩ = some (ptr p.ssd) ∧ W.cell? ⟨c, 17, none⟩ = some (ptr p.jr)) (by kernel_rfl) (⟨by rw [World.cell?_drew]; exact c14, by rw [World.cell?_drew]; exact c17⟩) (fun hHeld => ?_)
      refine Wl.i [0, 1, 2, 3, 4, 5, 6, 7] ?_; iterate 8 refine Wl.t hHeld ?_
      refine Wl.o ?_
      refine Wl.r 8 (fun K hK => ?_)
      go_simp
      have ud : Upd (fun _ => False) wr wr.drew := (Upd.refl _ wr).drew
      refine (ca_jsecs (H1.out.1.new ud)).mono ?_
      rintro e w2 ⟨g, rfl, hg, hgw, hu2⟩
      have h2 := H1.out.1.new (ud.trans hu2)
      have d2 := H1.out.2.1.trans (H1.out.1.didNew (ud.trans hu2))
      have og : own1 g = 0 := H1.out.1.far g hgw
      have ho := overw (S := fun j => own1 j = 2 ∨ w2.heap.size ≤ j) (base := 1 + 2 * n.pa) (m := n.jo) (by have := h2.open2; rw [H1.out.2.2.1.1] at this; exact this) (fun j hj => .inr hj) hg (fun hs => by rcases hs with hs | hs; rw [og] at hs; cases hs; have := lt_of_block hg; omega) h2.ok.j2 (by rw [h2.fl]; unfold CaN.size; omega) (by have := H1.out.2.2.2; have := h2.ok.j2; omega)
      have HO := Lib.hid (And.intro ho (And.intro h2 d2))
      have hH2 := And.intro ((ud.trans hu2).cellv c14 (fun h => h)) ((ud.trans hu2).cellv c17 (fun h => h))
      refine hK.out _ _ hH2 (fun _ => ?_)
      clear hK K hHeld ud h2 d2 og ho hg hgw hu2 c14 c17
      refine Wl.r 9 (fun K hK => ?_)
      go_simp
      refine HO.out.1.mono ?_
      rintro e w3 ⟨rfl, hd3, hu3⟩
      have h3 := HO.out.2.1.turn2 hu3 hd3 (flushF_len _ _)
      have d3 := HO.out.2.2.trans (HO.out.2.1.did2 hu3)
      obtain ⟨c14, -, -, c17, -, -, -, -, -⟩ := h3.cells
      have H3 := Lib.hid (And.intro h3 d3)
      refine hK.out _ _ ⟨c14, c17⟩ (fun hH3 => ?_)
      clear hK K hd3 hu3 h3 d3 c14 c17 hH2 HO
      refine Wl.i [10, 11] ?_; iterate 2 refine Wl.t hH3 ?_
      refine Wl.o ?_
      refine Wl.r 12 (fun K hK => ?_)
      go_simp
      refine hK.out _ _ hH3 (fun _ => ?_)
      clear hK K
      refine Wl.r 13 (fun K hK => ?_)
      go_simp
      refine hK.out _ _ hH3 (fun _ => ?_)
      clear hK K
      refine Wl.d ?_
      clear hH3
      go_wp2
      go_ret2
      exact ⟨rfl, _, H3.out.1, H3.out.2⟩
end
set_option maxRecDepth 100000 in
set_option maxHeartbeats 1000000 in
theorem nought14 {S : Nat → Prop} {w : World} {b base m : Nat} {F : List Bk} {O : List (Nat × Bk)} {P : List Int} (hd : Dv S w b F O P) (hm : base + m ≤ F.length) (hF : F.length ≤ 4096) (hz : ∀ i, i < m → F.getD (base + i) zB = zB) :
    Calls Tryz.prog 36 #[.pointer (some ⟨b, 0, none⟩), .int .i64 (base : Int), .int .i64 (m : Int)] w fun e w' => e = .returned (.bool true) ∧ Below w.heap.size w w' := by
  obtain ⟨Z, hZ⟩ : ∃ Z, Z = zB := ⟨_, rfl⟩
  have hZl : Z.length = 64 := by rw [hZ]; rfl
  have HZ := Lib.hid (And.intro hZ (buildZ_run Z hZ))
  have H := Lib.hid (And.intro hd hz)
  have hneq : ∀ W : World, (binOp .neq 54 (.agg (bkC Z).toArray) (.agg (bkC Z).toArray)).run Tryz.prog W = .ok (.bool false) W := by
    intro W; rw [run_neq_bk _ _ hZl hZl]; simp
  clear hd hz hZ
  go_enter Tryz.func36, Tryz.ntmps36
  go_wp2_with fail
  go_loopg [7] m (fun gk s7 wr => ∃ k : Nat, k + gk = m ∧ s7 = .int .i64 (k : Int) ∧ Below w.heap.size w wr)
  case atStart => exact ⟨0, by omega, rfl, Below.refl _ _⟩
  case round =>
    obtain ⟨k, hk, rfl, hb⟩ := hrel
    by_cases hlt : k < m
    · have k1 : (k : Int) < (m : Int) := by omega
      have hfm : Calls Tryz.prog 49 #[.pointer (some ⟨b, 0, none⟩), .int .i64 ((base : Int) + (k : Int))] wr fun e w' => e = .returned (.tuple #[.agg (bkC Z).toArray, .int .i64 0]) ∧ Below wr.heap.size wr w' := by
        refine (dfirm (H.out.1.keep (Upd.of_below (S := fun _ => False) hb) (fun _ _ h => h)) ((base : Int) + (k : Int))).mono fun e w' h => ?_
        have hc : hasC F.length ((base : Int) + (k : Int)) = 0 := if_neg (by omega)
        rcases h with ⟨h, -⟩ | ⟨-, rfl, h2⟩
        · exact absurd hc h
        · refine ⟨?_, h2⟩
          rw [show ((base : Int) + (k : Int)).toNat = base + k by omega, H.out.2 k hlt, HZ.out.1]
          rfl
      have HK := Lib.hid (And.intro hb hfm)
      clear hb hfm hlt
      go_wp2_with fail
      refine HK.out.2.mono ?_
      rintro e w3 ⟨rfl, hb3⟩
      obtain ⟨w4, hw4⟩ : ∃ w4, w4 = w3.alloc (.cells (bkC Z).toArray 54) := ⟨_, rfl⟩
      have hu4 : Upd (fun _ => False) w3 w4 := by rw [hw4]; exact (Upd.refl _ w3).alloc _
      have g4 : w4.heap[w3.heap.size]? = some (.cells (bkC Z).toArray 54 (0, 0)) := by rw [hw4]; exact heap_alloc_last w3 _ rfl
      obtain ⟨gb, hgb⟩ : ∃ gb, gb = w3.heap.size := ⟨_, rfl⟩
      rw [← hgb] at g4
      have r4 := range_of_block g4
      have hsi := sizeBk Z hZl
      have H4 := Lib.hid (HK.out.1.trans ((hb3.trans ((Upd.below hu4).mono hb3.size)).mono HK.out.1.size))
      have HW4 := Lib.hid (And.intro hw4 hgb)
      clear hb3 hu4 g4 hw4 hgb
      go_wp2_with (first
        | (refine wpList_store_new rfl _ _ _ rfl _ _ (bkC Z) rfl rfl (by rw [bkC_len, hZl]; rfl) hsi (bkC_one Z) ?_; refine Stop.i ?_)
        | fail)
      rw [← HW4.out.1, ← HW4.out.2]
      unfold Stop
      go_wp2_with (first
        | (refine wpList_load_midW (by rfl) _ _ rfl _ _ rfl _ _ r4 Tryz.underlying54 rfl hsi ?_)
        | (refine wpList_buildZW (by rfl) rfl HZ.out.2 ?_)
        | fail)
      go_roundg (gk - 1)
      case measure => omega
      case rel => exact ⟨k + 1, by omega, by go_num, H4.out⟩
    · obtain rfl : k = m := by omega
      have k1 : ¬ ((k : Int) < (k : Int)) := by omega
      have HB := Lib.hid hb
      clear hb hlt
      go_wp2
      go_ret
      exact ⟨rfl, HB.out⟩
theorem sect_back {k : Nat} (hk : k < 256) {sz : List Nat} {xs : List Int} (h : xs.length = sz.length) (h0 : ∀ x ∈ xs, 0 ≤ x) (hf : Fits (numL sz xs)) (mb : Bool) :
    okGet (sectB k (numL sz xs)) k sz mb = mb ∧ natsI (numsAt (sectB k (numL sz xs)) 1 sz) = xs := by
  have h2 : (numL sz xs).map (·.2) = sz := by unfold numL; rw [List.map_snd_zip (by simp [h])]
  obtain ⟨s1, s2⟩ := sect_ok hk hf mb
  rw [h2] at s1 s2
  refine ⟨s1, ?_⟩
  rw [s2]
  have := numL_nums h h0
  unfold numsL at this
  unfold natsI
  rw [List.map_map]
  exact this
def numsP (b : Bk) : List Nat := numsAt b 1 szP
def okP (b : Bk) : Bool := okGet b 3 szP (mayP (natsI (numsP b)))
def cdP (b : Bk) : Int := cdGet b 3 szP (mayP (natsI (numsP b)))
theorem page_back {xs : List Int} (hx : xs.length = 20) (h : mayP xs = true) : okP (sectP xs) = true ∧ natsI (numsP (sectP xs)) = xs := by
  obtain ⟨h0, hf⟩ := mayP_fits hx h
  obtain ⟨s1, s2⟩ := sect_back (k := 3) (by decide) (sz := szP) (by rw [hx]; rfl) h0 hf (mayP (natsI (numsP (sectP xs))))
  have h3 : natsI (numsP (sectP xs)) = xs := s2
  refine ⟨?_, h3⟩
  unfold okP
  rw [show okGet (sectP xs) 3 szP (mayP (natsI (numsP (sectP xs)))) = mayP (natsI (numsP (sectP xs))) from s1, h3]
  exact h
def entX (xs : List Int) (i : Nat) : List Value := [.int .i64 ((rowI xs i).getD 0 0), .int .i64 ((rowI xs i).getD 1 0), .bool ((rowI xs i).getD 2 0 == 1), .int .i64 ((rowI xs i).getD 3 0)]
def entZ : List Value := [.int .i64 0, .int .i64 0, .bool false, .int .i64 0]
def dsPk (xs : List Int) (k : Nat) : List Value := [.int .i64 (xs.getD 0 0), .int .i64 (xs.getD 1 0), .int .i64 (xs.getD 2 0), .int .i64 (xs.getD 3 0)] ++ (List.range 4).flatMap fun i => if i < k then entX xs i else entZ
def dsP (xs : List Int) : List Value := dsPk xs 4
theorem dsPk_len (xs : List Int) (k : Nat) : (dsPk xs k).length = 20 := by
  have e : ∀ i, (if i < k then entX xs i else entZ).length = 4 := fun i => by split <;> rfl
  simp [dsPk, List.range_succ, e]
theorem dsPk_one (xs : List Int) (k : Nat) : ∀ v ∈ dsPk xs k, v.oneCell' = true := by
  intro v hv
  rcases List.mem_append.1 hv with hv | hv
  · simp only [List.mem_cons, List.not_mem_nil, or_false] at hv
    rcases hv with rfl | rfl | rfl | rfl <;> rfl
  · obtain ⟨i, -, hi⟩ := List.mem_flatMap.1 hv
    split at hi <;> (simp only [entX, entZ, List.mem_cons, List.not_mem_nil, or_false] at hi; rcases hi with rfl | rfl | rfl | rfl <;> rfl)
theorem dsP_len (xs : List Int) : (dsP xs).length = 20 := dsPk_len xs 4
theorem dsP_one (xs : List Int) : ∀ v ∈ dsP xs, v.oneCell' = true := dsPk_one xs 4
theorem dsPk_step (xs : List Int) {k : Nat} (hk : k < 4) : (dsPk xs k).take (4 + k * 4) ++ entX xs k ++ (dsPk xs k).drop (4 + k * 4 + 4) = dsPk xs (k + 1) := by
  rcases (show k = 0 ∨ k = 1 ∨ k = 2 ∨ k = 3 by omega) with rfl | rfl | rfl | rfl <;> rfl
theorem allocPg (w : World) : (Instr.alloc 280 true (.tuple #[])).run Tryz.prog w = .ok (.pointer (some ⟨w.heap.size, 0, none⟩)) (w.alloc (.cells (dsPk [] 0).toArray 280)) := by
  kernel_rfl
theorem buildPg0 (x0 x1 x2 x3 : Int) (W : World) : (Instr.build 280 #[(0, .int .i64 x0), (1, .int .i64 x1), (2, .int .i64 x2), (3, .int .i64 x3)]).run Tryz.prog W = .ok (.agg ([Value.int .i64 x0, .int .i64 x1, .int .i64 x2, .int .i64 x3] ++ (List.range 4).flatMap fun _ => entZ).toArray) W := by
  kernel_rfl
theorem setCells_list {cs' cs : Array Value} {vs : List Value} {o : Nat} (_hs : cs'.size = cs.size) (hl : o + vs.length ≤ cs.size) (h : ∀ j, cs'[j]? = if o ≤ j ∧ j < o + vs.length ∧ j < cs.size then vs[j - o]? else cs[j]?) : cs' = (cs.toList.take o ++ vs ++ cs.toList.drop (o + vs.length)).toArray := by
  apply Array.ext_getElem?
  intro j
  rw [h j]
  simp only [List.getElem?_toArray, List.append_assoc, List.getElem?_append, List.length_take, List.getElem?_take, List.getElem?_drop, Array.length_toList, Nat.min_eq_left (show o ≤ cs.size by omega), Array.getElem?_toList]
  by_cases h1 : j < o
  · rw [if_neg (by omega), if_pos h1, if_pos h1]
  · by_cases h2 : j < o + vs.length
    · rw [if_pos (by omega), if_neg h1, if_pos (by omega)]
    · rw [if_neg (by omega), if_neg h1, if_neg (by omega)]
      congr 1
      omega
theorem buildP_step {xs : List Int} {k : Nat} {w : World} {b : Nat} {T : TypeId} (hk : k < 4) (h : w.heap[b]? = some (.cells (dsPk xs k).toArray T (0, 0))) : (w.setCells b (4 + k * 4) (entX xs k)).heap[b]? = some (.cells (dsPk xs (k + 1)).toArray T (0, 0)) := by
  obtain ⟨cs', h1, h2, h3⟩ := heap_setCells_same (entX xs k) (4 + k * 4) w b (dsPk xs k).toArray T (0, 0) h
  rw [h1, setCells_list h2 (by rw [List.size_toArray, dsPk_len]; show 4 + k * 4 + 4 ≤ 20; omega) h3, ← dsPk_step xs hk]
  rfl
set_option maxRecDepth 100000 in
set_option maxHeartbeats 2000000 in
theorem buildP {w : World} {gl ol cl : Nat} (xs : List Int) (hxl : xs.length = 20) (hx : w.rangeAt gl ol (ints xs)) (hcl : 20 ≤ cl) (hcm : cl ≤ maxLen) :
    Calls Tryz.prog 310 (#[.slice (some ⟨gl, ol, none⟩) 20 cl] ++ #[]) w fun e w' => e = .returned (.agg (dsP xs).toArray) ∧ Below w.heap.size w w' := by
  have c0 := cellR hx 0 (by omega)
  have c1 := cellR hx 1 (by omega)
  have c2 := cellR hx 2 (by omega)
  have c3 := cellR hx 3 (by omega)
  rw [Nat.add_zero] at c0
  have hlt : gl < w.heap.size := World.block_lt_of_cell? w _ c0
  have h00 : dsPk xs 0 = [.int .i64 (xs.getD 0 0), .int .i64 (xs.getD 1 0), .int .i64 (xs.getD 2 0), .int .i64 (xs.getD 3 0)] ++ (List.range 4).flatMap fun _ => entZ := rfl
  have hbl := buildPg0 (xs.getD 0 0) (xs.getD 1 0) (xs.getD 2 0) (xs.getD 3 0)
  rw [← h00] at hbl
  have H0 := Lib.hid h00
  generalize xs.getD 0 0 = x0 at *
  generalize xs.getD 1 0 = x1 at *
  generalize xs.getD 2 0 = x2 at *
  generalize xs.getD 3 0 = x3 at *
  obtain ⟨Z, hZ⟩ : ∃ Z, Z = dsPk [] 0 := ⟨_, rfl⟩
  have hal := allocPg
  simp only [← hZ] at hal
  have hZl : Z.toArray.size = 20 := by rw [hZ, List.size_toArray, dsPk_len]
  obtain ⟨L, hL⟩ : ∃ L, L = dsPk xs 0 := ⟨_, rfl⟩
  rw [← hL] at hbl
  have hLl : L.toArray.size = 20 := by rw [hL, List.size_toArray, dsPk_len]
  have hLi : (Tryz.prog.info? 280).map (·.size) = some L.toArray.size := by rw [hLl]; exact infoPg
  have hL1 : ∀ v ∈ L, v.oneCell' = true := by rw [hL]; exact dsPk_one _ _
  obtain ⟨w1, hw1⟩ : ∃ w1, w1 = w.alloc (.cells Z.toArray 280) := ⟨_, rfl⟩
  have hu1 : Upd (fun _ => False) w w1 := by rw [hw1]; exact (Upd.refl _ w).alloc _
  have g1 : w1.heap[w.heap.size]? = some (.cells Z.toArray 280 (0, 0)) := by rw [hw1]; exact heap_alloc_last w _ rfl
  have z1 : w1.heap.size = w.heap.size + 1 := by rw [hw1]; simp
  have d0 := hu1.cellv c0 (fun h => h)
  have d1 := hu1.cellv c1 (fun h => h)
  have d2 := hu1.cellv c2 (fun h => h)
  have d3 := hu1.cellv c3 (fun h => h)
  have HW1 := Lib.hid hw1
  have HX := Lib.hid (And.intro hx (And.intro hxl (And.intro hcl (And.intro hcm (And.intro hu1 (And.intro g1 (And.intro z1 hL)))))))
  clear hx hxl hcl hcm hu1 g1 z1 hL hw1 c0 c1 c2 c3 hZ h00 H0
  go_enter Tryz.func310, Tryz.ntmps310
  go_wp2_with (first
    | (refine wpList_allocZ rfl _ rfl _ hal ?_)
    | fail)
  rw [← HW1.out]
  refine wp_region_held_drew (S := fun W => W.cell? ⟨gl, ol, none⟩ = some (.int .i64 x0) ∧ W.cell? ⟨gl, ol + 1, none⟩ = some (.int .i64 x1) ∧ W.cell? ⟨gl, ol + 2, none⟩ = some (.int .i64 x2) ∧ W.cell? ⟨gl, ol + 3, none⟩ = some (.int .i64 x3)) (by kernel_rfl) (by (simp only [World.cell?_drew]); exact ⟨d0, d1, d2, d3⟩) (fun hHeld => ?_)
  refine Wl.i [0, 1, 2, 3, 4, 5, 6, 7, 8, 9, 10, 11] ?_; iterate 12 refine Wl.t hHeld ?_
  refine Wl.o ?_
  refine wpAnyH_take (i := 12) (v := .agg L.toArray) rfl (by kernel_rfl) (by kernel_rfl) (by kernel_rfl) (fun _ _ _ h => h) (Or.inl ⟨by rfl, fun W _ => ?_⟩) hHeld ?_
  · simp only [List.getElem_toArray, List.getElem_cons_succ, List.getElem_cons_zero, execOp, Sem.run_bind, List.map_toArray, List.map_cons, List.map_nil]
    change ((Instr.build 280 #[(0, .int .i64 x0), (1, .int .i64 x1), (2, .int .i64 x2), (3, .int .i64 x3)]).run Tryz.prog W).andThen _ = _
    rw [hbl]; rfl
  simp only [List.getElem_toArray, List.getElem_cons_succ, List.getElem_cons_zero, Act.put, List.setIfInBounds_toArray, List.set_cons_zero, List.set_cons_succ]
  refine Wl.r 13 (fun K hK => ?_)
  rw [if_pos (by rfl)]
  unfold Oper.wp
  simp only [List.getElem_toArray, List.getElem_cons_succ, List.getElem_cons_zero, execOp, Sem.run_bind, hal, Result.andThen_ok]
  have hZg := heap_alloc_last w1.drew (.cells Z.toArray 280) rfl
  have hua := (Upd.refl (fun _ => False) w1.drew).alloc (.cells Z.toArray 280)
  obtain ⟨w2, hw2⟩ : ∃ w2, w2 = w1.drew.alloc (.cells Z.toArray 280) := ⟨_, rfl⟩
  rw [← hw2] at hZg hua ⊢
  simp only [World.size_drew] at hZg
  have e0 := hua.cellv hHeld.1 (fun h => h)
  have e1 := hua.cellv hHeld.2.1 (fun h => h)
  have e2 := hua.cellv hHeld.2.2.1 (fun h => h)
  have e3 := hua.cellv hHeld.2.2.2 (fun h => h)
  refine hK.out _ _ ⟨e0, e1, e2, e3⟩ (fun hH2 => ?_)
  clear hK K
  have hth : w2.there w1.heap.size 0 L.toArray.size := fun j hj => by
    rw [cell_of_block hZg, Nat.zero_add, Array.getElem?_eq_getElem (by rw [hZl, ← hLl]; exact hj)]
    exact ⟨rfl, frozen_of_block hZg _⟩
  refine Wl.r 14 (fun K hK => ?_)
  rw [if_pos (by rfl)]
  refine wp_store_mid _ _ _ rfl _ _ L.toArray rfl rfl hth hLi (all_oneCell_toArray hL1) ?_
  simp only [Act.put, List.setIfInBounds_toArray]
  have hus := upd_row w2 w1.heap.size 0 L
  have hgl1 : gl ≠ w1.heap.size := by have := HX.out.2.2.2.2.2.2.1; omega
  have g3 : (w2.setCells w1.heap.size 0 L).heap[w1.heap.size]? = some (.cells L.toArray 280 (0, 0)) := by
    obtain ⟨cs', q1, q2, q3⟩ := heap_setCells_same L 0 w2 w1.heap.size Z.toArray 280 (0, 0) hZg
    rw [q1, setCells_list q2 (by rw [hZl, ← hLl, List.size_toArray]; omega) q3]
    have : L.length = Z.toArray.size := by rw [hZl, ← hLl, List.size_toArray]
    rw [Nat.zero_add, List.take_zero, List.nil_append, List.drop_of_length_le (by rw [Array.length_toList]; omega), List.append_nil]
  obtain ⟨hx, hxl, hcl, hcm, hu1, g1, z1, hL⟩ := HX.out
  have hu12 : Upd (fun _ => False) w1 w2 := ((Upd.refl _ w1).drew).trans hua
  have g13 := (hus.block w.heap.size (by have := lt_of_block g1; have := hu12.size; omega) (by omega)).trans (hu12.blockv g1)
  have hu3 : Upd (fun j => j = w1.heap.size) w (w2.setCells w1.heap.size 0 L) := ((hu1.trans hu12).mono (fun _ _ h => h.elim)).trans hus
  refine hK.out _ _ ⟨hus.cellv hH2.1 hgl1, hus.cellv hH2.2.1 hgl1, hus.cellv hH2.2.2.1 hgl1, hus.cellv hH2.2.2.2 hgl1⟩ (fun _ => ?_)
  clear hK K
  refine Wl.d ?_
  rw [z1] at g3 hus hgl1 hu3 g13
  simp only [World.size_drew, z1]
  generalize w2.setCells (w.heap.size + 1) 0 L = w3 at *
  rw [hL] at g3
  have hxd := ((hu1.trans hu12).range hx (fun h => h))
  have hx3 := hus.range hxd hgl1
  have HZ := Lib.hid hZl
  have H3 := Lib.hid (And.intro hx3 (And.intro g3 (And.intro g13 (And.intro hu3 (And.intro hxl (And.intro hcl (And.intro hcm hgl1)))))))
  clear hx hxl hcl hcm hu1 g1 hL hus hZg hua e0 e1 e2 e3 hth hH2 hHeld hu12 g13 hu3 hxd hx3 g3 d0 d1 d2 d3 hw2 hal hbl hLl hLi hL1 hZl HX HW1 hgl1 z1
  go_wp2_with fail
  go_loopg [19] 4 (fun g s19 wr => ∃ k : Nat, k + g = 4 ∧ s19 = .int .i64 (k : Int) ∧ wr.heap[w.heap.size + 1]? = some (.cells (dsPk xs k).toArray 280 (0, 0)) ∧ Upd (fun j => j = w.heap.size + 1) w3 wr)
  case atStart => exact ⟨0, by omega, rfl, H3.out.2.1, Upd.refl _ _⟩
  case round =>
    obtain ⟨k, hk, rfl, hg, hu⟩ := hrel
    obtain ⟨hx3, g3, g13, hu3, hxl, hcl, hcm, hgl1⟩ := H3.out
    by_cases hlt : k < 4
    · have k1 : (k : Int) < 4 := by omega
      have k0 : (0 : Int) ≤ (k : Int) := by omega
      have HR := Lib.hid (row_any (hu.range hx3 hgl1) hxl hcl hcm k hlt)
      have hrl := rowI_len hxl hlt
      obtain ⟨a0, a1, a2, a3, hrow⟩ : ∃ a0 a1 a2 a3, rowI xs k = [a0, a1, a2, a3] := by
        match rowI xs k, hrl with
        | [a0, a1, a2, a3], _ => exact ⟨_, _, _, _, rfl⟩
      rw [hrow] at HR
      have hE : Hid (entX xs k = [.int .i64 a0, .int .i64 a1, .bool (a2 == 1), .int .i64 a3]) := by show _ = _; unfold entX; rw [hrow]; rfl
      have HG := Lib.hid (And.intro hg hu)
      clear hx3 g3 g13 hu3 hxl hcl hcm hgl1 hg hu hrl hrow
      go_wp2_with fail
      refine HR.out.mono ?_
      rintro e w4 ⟨rfl, hb4⟩
      have hua : Upd (fun _ => False) wr (w4.alloc (.cells #[.int .i64 a0, .int .i64 a1, .int .i64 a2, .int .i64 a3] 419)) := (Upd.of_below hb4).alloc _
      have hg5 := hua.blockv HG.out.1
      have hth : (w4.alloc (.cells #[.int .i64 a0, .int .i64 a1, .int .i64 a2, .int .i64 a3] 419)).there (w.heap.size + 1) (4 + k * 4) 4 := fun j hj => by
        rw [cell_of_block hg5, frozen_of_block hg5, Array.getElem?_eq_getElem (by rw [List.size_toArray, dsPk_len]; omega)]
        exact ⟨rfl, rfl⟩
      have HU := Lib.hid (And.intro hua hg5)
      obtain ⟨E, hEE⟩ : ∃ E : List Value, E = [.int .i64 a0, .int .i64 a1, .bool (a2 == 1), .int .i64 a3] := ⟨_, rfl⟩
      have hone : E.toArray.all (·.oneCell') = true := by rw [hEE]; simp [Value.oneCell']
      have hEn : (Tryz.prog.info? 37).map (·.size) = some E.toArray.size := by rw [hEE]; exact infoEn
      have hth' : (w4.alloc (.cells #[.int .i64 a0, .int .i64 a1, .int .i64 a2, .int .i64 a3] 419)).there (w.heap.size + 1) (4 + k * 4) E.toArray.size := by rw [hEE]; exact hth
      replace hth := hth'
      clear hua hg5 hb4
      simp only [ints, List.map_cons, List.map_nil]
      go_wp2_with (first
        | (refine wpList_store_new rfl _ _ _ rfl _ _ [Value.int .i64 a0, .int .i64 a1, .int .i64 a2, .int .i64 a3] rfl rfl rfl infoEy (by simp [Value.oneCell']) ?_)
        | (refine wpList_store_mid rfl _ _ _ rfl (w.heap.size + 1) (4 + k * 4) E.toArray rfl (by rw [hEE]; rfl) hth hEn hone ?_)
        | fail)
      obtain ⟨hua, hg5⟩ := HU.out
      have hgs := buildP_step hlt hg5
      rw [hE.out] at hgs
      have hu5 := (HG.out.2.trans (hua.mono (S' := fun j => j = w.heap.size + 1) (fun _ _ h => h.elim))).trans (upd_row (w4.alloc (.cells #[.int .i64 a0, .int .i64 a1, .int .i64 a2, .int .i64 a3] 419)) (w.heap.size + 1) (4 + k * 4) [Value.int .i64 a0, .int .i64 a1, .bool (a2 == 1), .int .i64 a3])
      generalize (w4.alloc (.cells #[.int .i64 a0, .int .i64 a1, .int .i64 a2, .int .i64 a3] 419)).setCells (w.heap.size + 1) (4 + k * 4) [Value.int .i64 a0, .int .i64 a1, .bool (a2 == 1), .int .i64 a3] = w6 at *
      have HX := Lib.hid (And.intro hgs hu5)
      clear hua hg5 hgs hu5 hth hth' hone hEn hEE HU
      go_roundg (gk - 1)
      case measure => omega
      case rel => exact ⟨k + 1, by omega, by go_num, HX.out.1, HX.out.2⟩
    · obtain rfl : k = 4 := by omega
      have k1 : ¬ (((4 : Nat) : Int) < 4) := by decide
      have h20 := dsP_len xs
      have h1 := dsP_one xs
      have hsz : (Tryz.prog.info? 280).map (·.size) = some (dsP xs).length := by rw [h20]; exact infoPg
      have hsz2 : (Tryz.prog.info? 280).map (·.size) = some (dsP xs).toArray.size := by rw [List.size_toArray, h20]; exact infoPg
      have r5 : wr.rangeAt (w.heap.size + 1) 0 (dsP xs) := range_of_block hg
      have g0 := (hu.block w.heap.size (lt_of_block g13) (by omega)).trans g13
      have hZl : Z.toArray.size = 20 := HZ.out
      have hth : wr.there w.heap.size 0 (dsP xs).toArray.size := fun j hj => by
        rw [cell_of_block g0, frozen_of_block g0, Array.getElem?_eq_getElem (by rw [List.size_toArray, h20] at hj; omega)]
        exact ⟨rfl, rfl⟩
      have hth2 : wr.there w.heap.size 0 (dsP xs).length := by rw [List.size_toArray] at hth; exact hth
      have hU := hu3.trans hu
      obtain ⟨D, hD⟩ : ∃ D, D = dsP xs := ⟨_, rfl⟩
      rw [← hD] at h20 h1 hsz hsz2 r5 hth hth2
      have HD := Lib.hid hD
      clear hD
      have HF := Lib.hid (And.intro hth2 (And.intro hsz hU))
      clear hx3 g3 g13 hu3 hxl hcl hcm hg hu hth2 hU h20 g0
      go_wp2_with (first
        | (refine wpList_load_mid rfl _ _ rfl _ _ rfl _ _ r5 Tryz.underlying280 rfl hsz ?_)
        | (refine wpList_store_mid rfl _ _ _ rfl w.heap.size 0 D.toArray rfl rfl hth hsz2 (all_oneCell_toArray h1) ?_)
        | fail)
      exact bodyPost_ret (results_mid1 rfl _ _ w.heap.size 0 D _ rfl (World.rangeAt_setCells_same _ _ _ _ HF.out.1) Tryz.underlying280 rfl HF.out.2.1) rfl
        ⟨by rw [HD.out], below_upd (Below.refl _ w) ((HF.out.2.2.mono (S' := fun j => j = w.heap.size + 1 ∨ j = w.heap.size) (fun _ _ h => .inl h)).trans ((upd_row wr w.heap.size 0 D).mono (fun _ _ h => .inr h))) (Nat.le_refl _) (fun k e => by omega)⟩
end Go.Proofs.YtfhfbpmlnjdfoaaGreatDoor
