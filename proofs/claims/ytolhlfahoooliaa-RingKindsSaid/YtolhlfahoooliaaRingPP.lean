/- Rings of pairs, and of pointers to pairs: contracts. -/
import Derived.Test.YtolhlfahoooliaaAwake02
namespace Go.Proofs.Ytolhlfahoooliaa
open Go Go.Conc Go.RowKit

theorem info_ptr : ∃ i, Try.prog.info? 33 = some i ∧ i.bytes ≤ 24 := by
  have h : (Try.prog.info? 33).map (fun i => decide (i.bytes ≤ 24)) = some true := by kernel_rfl
  obtain ⟨i, hi, hb⟩ := Option.map_eq_some_iff.1 h
  exact ⟨i, hi, of_decide_eq_true hb⟩
theorem mkChan_ptr (w : World) : (Instr.makeChan 68 (.int .i64 64)).run Try.prog w = .ok (.chan (some w.heap.size)) (w.alloc (.chan 64 #[] false 0 0 false)) := by
  obtain ⟨i, hi, hb⟩ := info_ptr
  exact run_makeChan (P := Try.prog) (w := w) Try.underlying68 hi .i64 64 (by omega) (by omega)
theorem new_ptr (w : World) :
    Calls Try.prog 11 #[.int .i64 64] w fun e w' => e = .returned (.tuple #[ringPtr (w.heap.size + 1), .int .i64 0]) ∧
      RingAt 70 w' (w.heap.size + 1) w.heap.size 64 [] false ∧ Below w.heap.size w w' ∧ w'.heap.size = w.heap.size + 2 := by
  have hmk := mkChan_ptr w
  go_enter Try.func11, Try.ntmps11
  go_wp2
  go_ret2
  refine ⟨rfl, ⟨?_, ⟨0, 0, ?_⟩, by omega, by simp⟩, ?_, by simp⟩
  · exact heap_alloc_last _ _ (by simp)
  · rw [Below.heap_alloc _ _ _ (by simp)]; exact heap_alloc_last _ _ rfl
  · exact ((Below.refl _ _).alloc (Nat.le_refl _) _).alloc (by simp) _

theorem put_ptr {b c cap : Nat} {xs : List Value} {w : World} (h : RingAt 70 w b c cap xs false) (p : Nat) (hroom : xs.length < cap) :
    Calls Try.prog 13 #[ringPtr b, ringPtr p] w fun e w' => e = .returned (.int .i64 0) ∧
      RingAt 70 w' b c cap (xs ++ [ringPtr p]) false ∧ Upd (bc b c) w w' := by
  have hc0 := cell_of_block h.str 0
  have hc1 := cell_of_block h.str 1
  simp at hc0 hc1
  obtain ⟨hs, ⟨s, r, hch⟩, hne, hle⟩ := h
  have hs' := Lib.hid hs; clear hs
  have hch' := Lib.hid hch; clear hch
  refine calls_of_wpN Try.func13 rfl ?_
  simp only [Try.ntmps13, List.size_toArray, List.length_cons, List.length_nil, Nat.reduceAdd, Nat.reduceSub, Array.replicate_succ,
     Array.replicate_zero, List.push_toArray, List.append_toArray, List.nil_append, List.cons_append]
  refine .seq_of ?_
  go_wp2
  refine .seq_of ?_
  go_wp2
  refine .seq_of ?_
  go_wp2
  refine .seq_of ?_
  go_wp2
  refine .seq (.comm rfl (w₁ := w) (cases := #[scase c (ringPtr p) (.pointer none)]) (blocking := false) (shape := .select) (by simp [execOp, go_sem, Act.eval, scase])
    (fun fr cs es hs => step_lone_select_send_room hs hch'.out (by simpa using hroom)) ?_)
  simp only [Act.put, List.setIfInBounds_toArray, List.set_cons_succ, List.set_cons_zero, goInt]
  go_wp2
  refine .of ?_
  go_wp2
  go_ret
  refine ⟨rfl, ⟨?_, ⟨s + 1, r, ?_⟩, hne, ?_⟩, upd_setChan _ _ _ _ _ _ _ _ _⟩
  · rw [heap_setChan_ne _ hne]; exact hs'.out
  · rw [heap_setChan _ _ _ _ _ _ _ _ (lt_of_block hch'.out)]
  · simp; omega

theorem take_ptr_some {b c cap : Nat} {xs : List Value} {x : Value} {w : World} (h : RingAt 70 w b c cap (x :: xs) false) :
    Calls Try.prog 16 #[ringPtr b] w fun e w' => e = .returned (.tuple #[x, .int .i64 0]) ∧
      RingAt 70 w' b c cap xs false ∧ Upd (bc b c) w w' := by
  have hc0 := cell_of_block h.str 0
  simp at hc0
  obtain ⟨hs, ⟨s, r, hch⟩, hne, hle⟩ := h
  have hs' := Lib.hid hs; clear hs
  have hch' := Lib.hid hch; clear hch
  refine calls_of_wpN Try.func16 rfl ?_
  simp only [Try.ntmps16, List.size_toArray, List.length_cons, List.length_nil, Nat.reduceAdd, Nat.reduceSub, Array.replicate_succ,
     Array.replicate_zero, List.push_toArray, List.append_toArray, List.nil_append, List.cons_append]
  refine .seq_of ?_
  go_wp2
  refine .seq_of ?_
  go_wp2
  refine .seq_of ?_
  go_wp2
  refine .seq_of ?_
  go_wp2
  refine .seq (.comm rfl (w₁ := w) (cases := #[rcase c (.pointer none)]) (blocking := false) (shape := .select) (by simp [execOp, go_sem, Act.eval, rcase])
    (fun fr cs es hs => step_lone_select_recv_buf hs hch'.out (by simp)) ?_)
  simp only [Act.put, List.setIfInBounds_toArray, List.set_cons_succ, List.set_cons_zero, goInt]
  go_wp2
  refine .of ?_
  go_wp2
  go_ret2
  refine ⟨by simp, ⟨?_, ⟨s, r + 1, ?_⟩, hne, ?_⟩, upd_setChan _ _ _ _ _ _ _ _ _⟩
  · rw [heap_setChan_ne _ hne]; exact hs'.out
  · rw [heap_setChan _ _ _ _ _ _ _ _ (lt_of_block hch'.out)]
  · simp at hle ⊢; omega

theorem take_ptr_none {b c cap : Nat} {w : World} (h : RingAt 70 w b c cap [] false) :
    Calls Try.prog 16 #[ringPtr b] w fun e w' => e = .returned (.tuple #[.pointer none, .int .i64 14]) ∧ w' = w := by
  have hc0 := cell_of_block h.str 0
  simp at hc0
  obtain ⟨hs, ⟨s, r, hch⟩, hne, hle⟩ := h
  have hs' := Lib.hid hs; clear hs
  have hch' := Lib.hid hch; clear hch
  refine calls_of_wpN Try.func16 rfl ?_
  simp only [Try.ntmps16, List.size_toArray, List.length_cons, List.length_nil, Nat.reduceAdd, Nat.reduceSub, Array.replicate_succ,
     Array.replicate_zero, List.push_toArray, List.append_toArray, List.nil_append, List.cons_append]
  refine .seq_of ?_
  go_wp2
  refine .seq_of ?_
  go_wp2
  refine .seq_of ?_
  go_wp2
  refine .seq_of ?_
  go_wp2
  refine .seq (.comm rfl (w₁ := w) (cases := #[rcase c (.pointer none)]) (blocking := false) (shape := .select) (by simp [execOp, go_sem, Act.eval, rcase])
    (fun fr cs es hs => step_lone_select_default hs hch'.out) ?_)
  simp only [Act.put, List.setIfInBounds_toArray, List.set_cons_succ, List.set_cons_zero, goInt]
  go_wp2
  refine .of ?_
  go_wp2
  go_ret2
  exact ⟨rfl, rfl⟩

theorem len_ptr {b c cap : Nat} {xs : List Value} {w : World} (h : RingAt 70 w b c cap xs false) :
    Calls Try.prog 15 #[ringPtr b] w fun e w' => e = .returned (.int .i64 xs.length) ∧ w' = w := by
  have hc0 := cell_of_block h.str 0
  simp at hc0
  obtain ⟨s, r, hch⟩ := h.chan
  have hlen := fun ty => run_len_chan (P := Try.prog) 68 ty Try.underlying68 hch
  clear h hch
  go_enter Try.func15, Try.ntmps15
  go_wp2
  go_ret
  exact ⟨by simp [goInt], rfl⟩

theorem info_pair : ∃ i, Try.prog.info? 29 = some i ∧ i.bytes ≤ 24 := by
  have h : (Try.prog.info? 29).map (fun i => decide (i.bytes ≤ 24)) = some true := by kernel_rfl
  obtain ⟨i, hi, hb⟩ := Option.map_eq_some_iff.1 h
  exact ⟨i, hi, of_decide_eq_true hb⟩
theorem mkChan_pair (w : World) : (Instr.makeChan 65 (.int .i64 64)).run Try.prog w = .ok (.chan (some w.heap.size)) (w.alloc (.chan 64 #[] false 0 0 false)) := by
  obtain ⟨i, hi, hb⟩ := info_pair
  exact run_makeChan (P := Try.prog) (w := w) Try.underlying65 hi .i64 64 (by omega) (by omega)
theorem new_pair (w : World) :
    Calls Try.prog 10 #[.int .i64 64] w fun e w' => e = .returned (.tuple #[ringPtr (w.heap.size + 1), .int .i64 0]) ∧
      RingAt 67 w' (w.heap.size + 1) w.heap.size 64 [] false ∧ Below w.heap.size w w' ∧ w'.heap.size = w.heap.size + 2 := by
  have hmk := mkChan_pair w
  go_enter Try.func10, Try.ntmps10
  go_wp2
  go_ret2
  refine ⟨rfl, ⟨?_, ⟨0, 0, ?_⟩, by omega, by simp⟩, ?_, by simp⟩
  · exact heap_alloc_last _ _ (by simp)
  · rw [Below.heap_alloc _ _ _ (by simp)]; exact heap_alloc_last _ _ rfl
  · exact ((Below.refl _ _).alloc (Nat.le_refl _) _).alloc (by simp) _

/-- A pair's value. -/
abbrev pairV (n : Int) (s : ByteArray) : Value := .agg #[.int .i64 n, .string s]

theorem put_pair {b c cap : Nat} {xs : List Value} {w : World} (h : RingAt 67 w b c cap xs false) (n : Int) (t : ByteArray) (hroom : xs.length < cap) :
    Calls Try.prog 12 #[ringPtr b, pairV n t] w fun e w' => e = .returned (.int .i64 0) ∧
      RingAt 67 w' b c cap (xs ++ [pairV n t]) false ∧ Upd (bc b c) w w' := by
  have hc0 := cell_of_block h.str 0
  have hc1 := cell_of_block h.str 1
  simp at hc0 hc1
  obtain ⟨hs, ⟨s, r, hch⟩, hne, hle⟩ := h
  have hbl := lt_of_block hs
  have hcl := lt_of_block hch
  have hs' := Lib.hid ((Below.heap_alloc w (.cells #[.int .i64 n, .string t] 29) b hbl).trans hs); clear hs
  have hch' := Lib.hid ((Below.heap_alloc w (.cells #[.int .i64 n, .string t] 29) c hcl).trans hch); clear hch
  refine calls_of_wpN Try.func12 rfl ?_
  simp only [Try.ntmps12, List.size_toArray, List.length_cons, List.length_nil, Nat.reduceAdd, Nat.reduceSub, Array.replicate_succ,
     Array.replicate_zero, List.push_toArray, List.append_toArray, List.nil_append, List.cons_append]
  refine .seq_of ?_
  go_wp2
  refine .seq_of ?_
  go_wp2
  refine .seq_of ?_
  go_wp2
  refine .seq_of ?_
  go_wp2
  refine .seq (.comm rfl (w₁ := w.alloc (.cells #[.int .i64 n, .string t] 29)) (cases := #[scase c (pairV n t) (pairV 0 ⟨#[]⟩)]) (blocking := false) (shape := .select) (by simp [execOp, go_sem, Act.eval, scase])
    (fun fr cs es hs => step_lone_select_send_room hs hch'.out (by simpa using hroom)) ?_)
  simp only [Act.put, List.setIfInBounds_toArray, List.set_cons_succ, List.set_cons_zero, goInt]
  go_wp2
  refine .of ?_
  go_wp2
  go_ret
  refine ⟨rfl, ⟨?_, ⟨s + 1, r, ?_⟩, hne, ?_⟩, ((Upd.refl _ _).alloc _).trans (upd_setChan _ _ _ _ _ _ _ _ _)⟩
  · rw [heap_setChan_ne _ hne]; exact hs'.out
  · rw [heap_setChan _ _ _ _ _ _ _ _ (lt_of_block hch'.out)]
  · simp; omega

/-- The block of a pair's own. -/
abbrev pairB (n : Int) (s : ByteArray) : Obj := .cells #[.int .i64 n, .string s] 29

theorem take_pair_some {b c cap : Nat} {xs : List Value} {n : Int} {t : ByteArray} {w : World} (h : RingAt 67 w b c cap (pairV n t :: xs) false) :
    Calls Try.prog 28 #[ringPtr b] w fun e w' => e = .returned (.tuple #[pairV n t, .int .i64 0]) ∧
      RingAt 67 w' b c cap xs false ∧ Upd (bc b c) w w' := by
  have hbl := lt_of_block h.str
  have hcl : c < w.heap.size := by obtain ⟨s, r, hch⟩ := h.chan; exact lt_of_block hch
  have h1 := h.keep ((Upd.refl (fun _ => False) w).alloc (pairB 0 ⟨#[]⟩)) (fun h => h) (fun h => h)
  have h2 := h1.keep ((Upd.refl (fun _ => False) _).alloc (pairB 0 ⟨#[]⟩)) (fun h => h) (fun h => h)
  clear h h1
  have hc0 := cell_of_block h2.str 0
  simp at hc0
  obtain ⟨hs, ⟨s, r, hch⟩, hne, hle⟩ := h2
  obtain ⟨wr, hwr⟩ : ∃ wr, wr = ((w.alloc (pairB 0 ⟨#[]⟩)).alloc (pairB 0 ⟨#[]⟩)).setChan c cap ((pairV n t :: xs).toArray.extract 1 (pairV n t :: xs).toArray.size) false s (r + 1) false := ⟨_, rfl⟩
  have hA : wr.heap[w.heap.size]? = some (pairB 0 ⟨#[]⟩) := by
    rw [hwr, heap_setChan_ne _ (by omega), Below.heap_alloc _ _ _ (by simp)]; exact heap_alloc_last _ _ rfl
  have HR : RingAt 67 wr b c cap xs false := by
    refine ⟨by rw [hwr, heap_setChan_ne _ hne]; exact hs, ⟨s, r + 1, ?_⟩, hne, by simp at hle; omega⟩
    rw [hwr, heap_setChan _ _ _ _ _ _ _ _ (lt_of_block hch)]; simp
  have HU : Upd (bc b c) w wr := by rw [hwr]; exact (((Upd.refl _ _).alloc _).alloc _).trans (upd_setChan _ _ _ _ _ _ _ _ _)
  have hA1 := (Below.heap_alloc wr (.cells #[.int .i64 n, .string t] 29) _ (lt_of_block hA)).trans hA
  have hx0 := cell_of_block hA1 0
  have hx1 := cell_of_block hA1 1
  have hf0 := frozen_of_block hA1 0
  have hf1 := frozen_of_block hA1 1
  simp at hx0 hx1
  have hAlt := Lib.hid (lt_of_block hA1)
  have HA1 := Lib.hid hA1; clear hA hA1
  have HS := Lib.hid hs; clear hs
  have hch' := Lib.hid hch; clear hch
  have HW := Lib.hid hwr; clear hwr
  have HR := Lib.hid HR
  have HU := Lib.hid HU
  refine calls_of_wpN Try.func28 rfl ?_
  simp only [Try.ntmps28, List.size_toArray, List.length_cons, List.length_nil, Nat.reduceAdd, Nat.reduceSub, Array.replicate_succ,
     Array.replicate_zero, List.push_toArray, List.append_toArray, List.nil_append, List.cons_append]
  refine .seq_of ?_
  go_wp2
  refine .seq_of ?_
  go_wp2
  refine .seq_of ?_
  go_wp2
  refine .seq_of ?_
  go_wp2
  refine .seq (.comm rfl (w₁ := (w.alloc (pairB 0 ⟨#[]⟩)).alloc (pairB 0 ⟨#[]⟩)) (w₂ := wr) (v := .tuple #[goInt 0, .bool true, pairV n t]) (cases := #[rcase c (pairV 0 ⟨#[]⟩)]) (blocking := false) (shape := .select) (by simp [execOp, go_sem, Act.eval, rcase])
    (fun fr cs es hs => by rw [HW.out]; exact step_lone_select_recv_buf hs hch'.out (by simp)) ?_)
  simp only [Act.put, List.setIfInBounds_toArray, List.set_cons_succ, List.set_cons_zero, goInt]
  go_wp2
  refine .of ?_
  go_wp2
  have HA2 := heap_setCell_same (heap_setCell_same HA1.out 0 (.int .i64 n)) 1 (.string t)
  have hy0 := cell_of_block HA2 0
  have hy1 := cell_of_block HA2 1
  simp at hy0 hy1
  have hfin : Upd (bc b c) w (((wr.alloc (.cells #[.int .i64 n, .string t] 29)).setCell ⟨w.heap.size, 0, none⟩ (.int .i64 n)).setCell ⟨w.heap.size, 1, none⟩ (.string t)) :=
    Upd.new ((HU.out).alloc _) ((upd_setCell _ _ _ _).trans (upd_setCell _ _ _ _)) (fun i hi e => by omega)
  refine bodyPost_ret (v := .tuple #[pairV n t, .int .i64 0]) ?_ rfl ⟨rfl, ?_, hfin⟩
  · simp [results, Try.results28, go_sem, hy0, hy1]
  · have := (HR.out.keep ((Upd.refl (fun j => j = w.heap.size) _).alloc (pairB n t)) (by omega) (by omega))
    exact this.keep ((upd_setCell _ _ _ _).trans (upd_setCell _ _ _ _)) (by omega) (by omega)

theorem take_pair_none {b c cap : Nat} {w : World} (h : RingAt 67 w b c cap [] false) :
    Calls Try.prog 28 #[ringPtr b] w fun e w' => e = .returned (.tuple #[pairV 0 ⟨#[]⟩, .int .i64 14]) ∧
      RingAt 67 w' b c cap [] false ∧ Upd (bc b c) w w' := by
  have hbl := lt_of_block h.str
  have hcl : c < w.heap.size := by obtain ⟨s, r, hch⟩ := h.chan; exact lt_of_block hch
  have h1 := h.keep ((Upd.refl (fun _ => False) w).alloc (pairB 0 ⟨#[]⟩)) (fun h => h) (fun h => h)
  have h2 := h1.keep ((Upd.refl (fun _ => False) _).alloc (pairB 0 ⟨#[]⟩)) (fun h => h) (fun h => h)
  clear h h1
  have H2 := Lib.hid h2
  have hc0 := cell_of_block h2.str 0
  simp at hc0
  obtain ⟨hs, ⟨s, r, hch⟩, hne, hle⟩ := h2
  have hA1 : ((w.alloc (.cells #[.int .i64 0, .string ⟨#[]⟩] 29)).alloc (.cells #[.int .i64 0, .string ⟨#[]⟩] 29)).heap[w.heap.size]? = some (pairB 0 ⟨#[]⟩) := by
    rw [Below.heap_alloc _ _ _ (by simp)]; exact heap_alloc_last _ _ rfl
  have HA1 := Lib.hid hA1; clear hA1
  have HS := Lib.hid hs; clear hs
  have hch' := Lib.hid hch; clear hch
  refine calls_of_wpN Try.func28 rfl ?_
  simp only [Try.ntmps28, List.size_toArray, List.length_cons, List.length_nil, Nat.reduceAdd, Nat.reduceSub, Array.replicate_succ,
     Array.replicate_zero, List.push_toArray, List.append_toArray, List.nil_append, List.cons_append]
  refine .seq_of ?_
  go_wp2
  refine .seq_of ?_
  go_wp2
  refine .seq_of ?_
  go_wp2
  refine .seq_of ?_
  go_wp2
  refine .seq (.comm rfl (w₁ := (w.alloc (pairB 0 ⟨#[]⟩)).alloc (pairB 0 ⟨#[]⟩)) (cases := #[rcase c (pairV 0 ⟨#[]⟩)]) (blocking := false) (shape := .select) (by simp [execOp, go_sem, Act.eval, rcase])
    (fun fr cs es hs => step_lone_select_default hs hch'.out) ?_)
  simp only [Act.put, List.setIfInBounds_toArray, List.set_cons_succ, List.set_cons_zero, goInt]
  go_wp2
  refine .of ?_
  go_wp2
  have HA2 := heap_setCell_same (heap_setCell_same HA1.out 0 (.int .i64 0)) 1 (.string ⟨#[]⟩)
  have hy0 := cell_of_block HA2 0
  have hy1 := cell_of_block HA2 1
  simp at hy0 hy1
  refine bodyPost_ret (v := .tuple #[pairV 0 ⟨#[]⟩, .int .i64 14]) ?_ rfl ⟨rfl, ?_, ?_⟩
  · simp [results, Try.results28, go_sem, hy0, hy1]
  · exact H2.out
  · exact ((Upd.refl _ _).alloc _).alloc _

/-- The pairs of a list of strings, from number i on: as values, as cells. -/
def pairsV : Nat → List ByteArray → List Value
  | _, [] => []
  | i, s :: r => pairV i s :: pairsV (i + 1) r
def pairsC : Nat → List ByteArray → List Value
  | _, [] => []
  | i, s :: r => .int .i64 i :: .string s :: pairsC (i + 1) r

theorem infoPair : (Try.prog.info? 29).map (fun i => (i.zero, i.size, i.bytes)) = some (some (pairV 0 ⟨#[]⟩), 2, 24) := by kernel_rfl

theorem pairsV_len : ∀ (l : List ByteArray) (i : Nat), (pairsV i l).length = l.length
  | [], _ => rfl
  | _ :: r, i => by simp [pairsV, pairsV_len r]
theorem pairsC_append : ∀ (l r : List ByteArray) (i : Nat), pairsC i (l ++ r) = pairsC i l ++ pairsC (i + l.length) r
  | [], r, i => by simp [pairsC]
  | s :: l, r, i => by simp [pairsC, pairsC_append l r]; congr 1; omega
theorem pairsV_append : ∀ (l r : List ByteArray) (i : Nat), pairsV i (l ++ r) = pairsV i l ++ pairsV (i + l.length) r
  | [], r, i => by simp [pairsV]
  | s :: l, r, i => by simp [pairsV, pairsV_append l r]; congr 1; omega

theorem drain_pair {b c cap : Nat} {w : World} {l : List ByteArray} (h : RingAt 67 w b c cap (pairsV 0 l) false) (hcap : cap ≤ 1024) :
    Calls Try.prog 14 #[ringPtr b] w fun e w' => ∃ v, e = .returned v ∧ Sl w' 29 2 v l.length (pairsC 0 l) ∧ From w.heap.size v ∧ Upd (bc b c) w w' := by
  obtain ⟨i0, hi, hz0, hz1, hz2⟩ := info_parts infoPair
  have hle : l.length ≤ 1024 := by have := h.le; rw [pairsV_len] at this; omega
  have hb := lt_of_block h.str
  have hcl : c < w.heap.size := by obtain ⟨s, r, hch⟩ := h.chan; exact lt_of_block hch
  have H := Lib.hid h; clear h
  go_enter Try.func14, Try.ntmps14
  go_wp2
  go_step3
  go_wp2
  go_step3
  go_wp2
  go_loopg [3] (l.length + 1) (fun k v wr => ∃ j, j ≤ l.length ∧ k + j = l.length + 1 ∧ Sl wr 29 2 v j (pairsC 0 (l.take j)) ∧ From w.heap.size v ∧
     RingAt 67 wr b c cap (pairsV j (l.drop j)) false ∧ Upd (bc b c) w wr)
  case atStart => exact ⟨0, by omega, by omega, by simpa [pairsC] using Sl.nil _ _ _, From.nil _ _ _, by simpa using H.out, Upd.refl _ _⟩
  case round =>
    obtain ⟨j, hj, hk, hsl, hown, hr, hu⟩ := hrel
    have HO := hown; clear hown
    by_cases hlt : j < l.length
    · rw [List.drop_eq_getElem_cons hlt, pairsV] at hr
      have ht := Lib.hid (List.take_succ_eq_append_getElem hlt)
      go_wp2_with fail
      refine (take_pair_some hr).mono ?_
      rintro e w' ⟨rfl, hr', hu'⟩
      have hsl' := (hsl.keep_lt HO hu' (bc_lt hb hcl)).keep ((Upd.refl (fun _ => False) _).alloc (pairB j l[j])) (fun _ _ h => h)
      have hr1 := hr'.keep ((Upd.refl (fun _ => False) _).alloc (pairB j l[j])) (fun h => h) (fun h => h)
      clear hr'
      go_wp2_with (at_builtin; refine wpList_append_one rfl _ _ 36 rfl i0 (pairV 0 ⟨#[]⟩) 24 Try.underlying36 hi hz0 hz1 hz2 rfl (by decide) rfl hsl' [.int .i64 j, .string l[j]] (by show Value.slice (some ⟨_, 0, none⟩) 1 1 = _; simp) rfl (by simp [Value.oneCell']) (by unfold maxLen; omega) (by omega) ?_)
      intro v' w2 hs2 hu2 hb2
      have hr2 := hr1.keep_from hu2 hb hcl HO.own
      go_wp2
      go_roundg (gk - 1)
      case measure => omega
      case rel =>
        refine ⟨j + 1, by omega, by omega, ?_, hb2.ge (by have := hu.size; have := hu'.size; simp; omega) HO, hr2, ?_⟩
        · rw [ht.out, pairsC_append]; simpa [pairsC, Nat.min_eq_left hj] using hs2
        · exact ((hu.trans hu').alloc _).new hu2 (fun i hi hg => by have := HO _ hg; omega)
    · obtain rfl : j = l.length := by omega
      rw [List.drop_length, pairsV] at hr
      rw [List.take_length] at hsl
      go_wp2_with fail
      refine (take_pair_none hr).mono ?_
      rintro e w' ⟨rfl, hr', hu'⟩
      have hsl' := (hsl.keep_lt HO hu' (bc_lt hb hcl)).keep ((Upd.refl (fun _ => False) _).alloc (pairB 0 ⟨#[]⟩)) (fun _ _ h => h)
      go_wp2
      rw [Exit.noGoto_ret]
      go_ret
      exact ⟨_, rfl, hsl', HO, (hu.trans hu').alloc _⟩

end Go.Proofs.Ytolhlfahoooliaa
