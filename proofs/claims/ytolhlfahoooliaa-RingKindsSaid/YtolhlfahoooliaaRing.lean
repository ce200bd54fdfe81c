/- The ring of ints: a contract for each of its functions. -/
import Derived.Test.YtolhlfahoooliaaComm
import Derived.Test.YtolhlfahoooliaaBase
import Derived.Test.YtolhlfahoooliaaProg
namespace Go.Proofs.Ytolhlfahoooliaa
open Go Go.Conc Go.RowKit

/-- A ring at block b, its channel at block c. -/
structure RingAt (T : TypeId) (w : World) (b c cap : Nat) (xs : List Value) (closed : Bool) : Prop where
  str : w.heap[b]? = some (.cells #[.chan (some c), .bool closed] T (0, 0))
  chan : ∃ s r, w.heap[c]? = some (.chan cap xs.toArray closed s r false)
  ne : b ≠ c
  le : xs.length ≤ cap

abbrev ringPtr (b : Nat) : Value := .pointer (some ⟨b, 0, none⟩)

def bc (b c : Nat) : Nat → Prop := fun k => k = b ∨ k = c

theorem RingAt.keep {T : TypeId} {w w' : World} {b c cap : Nat} {xs : List Value} {closed : Bool} (h : RingAt T w b c cap xs closed) {S : Nat → Prop} (hu : Upd S w w') (hb : ¬ S b) (hc : ¬ S c) :
    RingAt T w' b c cap xs closed := by
  obtain ⟨s, r, hch⟩ := h.chan
  exact ⟨(hu.block b (lt_of_block h.str) hb).trans h.str, ⟨s, r, (hu.block c (lt_of_block hch) hc).trans hch⟩, h.ne, h.le⟩

theorem not_bc {b c k : Nat} (hb : b ≠ k) (hc : c ≠ k) : ¬ bc b c k := by rintro (h | h); exact hb h.symm; exact hc h.symm
theorem bc_lt {b c B : Nat} (hb : b < B) (hc : c < B) : ∀ k, bc b c k → k < B := by rintro k (rfl | rfl) <;> assumption
theorem bc_ge {b c B : Nat} (hb : B ≤ b) (hc : B ≤ c) : ∀ k, bc b c k → B ≤ k := by rintro k (rfl | rfl) <;> assumption
theorem RingAt.keep_from {T : TypeId} {w w' : World} {b c cap B : Nat} {xs : List Value} {closed : Bool} (h : RingAt T w b c cap xs closed) {S : Nat → Prop} (hu : Upd S w w') (hb : b < B) (hc : c < B) (hS : ∀ j, S j → B ≤ j) :
    RingAt T w' b c cap xs closed := h.keep hu (fun hs => by have := hS b hs; omega) (fun hs => by have := hS c hs; omega)

theorem upd_setChan (w : World) (b c cap : Nat) (buf : Array Value) (cl : Bool) (s r : Nat) (tm : Bool) : Upd (bc b c) w (w.setChan c cap buf cl s r tm) :=
  ⟨rfl, rfl, rfl, by simp [size_setChan], fun k _ hs => by
    simp only [World.setChan]
    rw [Array.getElem?_setIfInBounds_ne (fun e => hs (.inr e.symm))]⟩

theorem heap_setChan_ne (w : World) {b c : Nat} (h : b ≠ c) (cap : Nat) (buf : Array Value) (cl : Bool) (s r : Nat) (tm : Bool) : (w.setChan c cap buf cl s r tm).heap[b]? = w.heap[b]? := by
  simp only [World.setChan]; rw [Array.getElem?_setIfInBounds_ne (fun e => h e.symm)]

/-- 'New' at a bound that may not be. -/
theorem new_bad (n : Int) (w : World) (h : n < 1 ∨ 1024 < n) :
    Calls Try.prog 17 #[.int .i64 n] w fun e w' => e = .returned (.tuple #[.pointer none, .int .i64 24]) ∧ w' = w := by
  rcases h with h | h
  · go_enter Try.func17, Try.ntmps17
    go_wp2
    go_ret2
    exact ⟨rfl, rfl⟩
  · have h' : ¬ n < 1 := by omega
    go_enter Try.func17, Try.ntmps17
    go_wp2
    go_ret2
    exact ⟨rfl, rfl⟩

theorem bytesInt : ∃ i, Try.prog.info? 3 = some i ∧ i.bytes = 8 := by
  have h : (Try.prog.info? 3).map (·.bytes) = some 8 := by kernel_rfl
  obtain ⟨i, hi, hb⟩ := Option.map_eq_some_iff.1 h
  exact ⟨i, hi, hb⟩
theorem mkChan (n : Int) (w : World) (h1 : 1 ≤ n) (h2 : n ≤ 1024) : (Instr.makeChan 74 (.int .i64 n)).run Try.prog w = .ok (.chan (some w.heap.size)) (w.alloc (.chan n.toNat #[] false 0 0 false)) := by
  obtain ⟨k, rfl⟩ := Int.eq_ofNat_of_zero_le (show 0 ≤ n by omega)
  obtain ⟨i, hi, hb⟩ := bytesInt
  exact run_makeChan (P := Try.prog) (w := w) Try.underlying74 hi .i64 k (by omega) (by rw [hb]; omega)

theorem new_ok2 (n : Int) (w : World) (h1 : 1 ≤ n) (h2 : n ≤ 1024) :
    Calls Try.prog 17 #[.int .i64 n] w fun e w' => e = .returned (.tuple #[ringPtr (w.heap.size + 1), .int .i64 0]) ∧
      RingAt 76 w' (w.heap.size + 1) w.heap.size n.toNat [] false ∧ Below w.heap.size w w' ∧ w'.heap.size = w.heap.size + 2 := by
  have hmk := mkChan n w h1 h2
  have h' : ¬ n < 1 := by omega
  have h'' : ¬ 1024 < n := by omega
  go_enter Try.func17, Try.ntmps17
  go_wp2
  go_ret2
  refine ⟨rfl, ⟨?_, ⟨0, 0, ?_⟩, by omega, by simp⟩, ?_, by simp⟩
  · exact heap_alloc_last _ _ (by simp)
  · rw [Below.heap_alloc _ _ _ (by simp)]; exact heap_alloc_last _ _ (by simp)
  · exact ((Below.refl _ _).alloc (Nat.le_refl _) _).alloc (by simp) _

theorem new_ok (n : Int) (w : World) (h1 : 1 ≤ n) (h2 : n ≤ 1024) :
    Calls Try.prog 17 #[.int .i64 n] w fun e w' => e = .returned (.tuple #[ringPtr (w.heap.size + 1), .int .i64 0]) ∧
      RingAt 76 w' (w.heap.size + 1) w.heap.size n.toNat [] false ∧ Below w.heap.size w w' := (new_ok2 n w h1 h2).mono fun _ _ ⟨h1, h2, h3, _⟩ => ⟨h1, h2, h3⟩

def putCode (closed : Bool) (xs : List Value) (cap : Nat) : Int := if closed then 16 else if xs.length < cap then 0 else 17
def putList (closed : Bool) (xs : List Value) (cap : Nat) (x : Value) : List Value := if closed then xs else if xs.length < cap then xs ++ [x] else xs

theorem put_nil (x : Int) (w : World) : Calls Try.prog 18 #[.pointer none, .int .i64 x] w fun e w' => e = .returned (.int .i64 2) ∧ w' = w := by
  go_enter Try.func18, Try.ntmps18
  go_wp2
  go_ret
  exact ⟨rfl, rfl⟩

theorem put_any {b c cap : Nat} {xs : List Value} {closed : Bool} {w : World} (h : RingAt 76 w b c cap xs closed) (x : Int) :
    Calls Try.prog 18 #[ringPtr b, .int .i64 x] w fun e w' => e = .returned (.int .i64 (putCode closed xs cap)) ∧
      RingAt 76 w' b c cap (putList closed xs cap (.int .i64 x)) closed ∧ Upd (bc b c) w w' := by
  have hc0 := cell_of_block h.str 0
  have hc1 := cell_of_block h.str 1
  simp at hc0 hc1
  cases closed with
  | true =>
    have h' := h
    clear h
    go_enter Try.func18, Try.ntmps18
    go_wp2
    go_ret
    exact ⟨rfl, h', Upd.refl _ _⟩
  | false =>
    obtain ⟨hs, ⟨s, r, hch⟩, hne, hle⟩ := h
    have hs' := Lib.hid hs; clear hs
    have hch' := Lib.hid hch; clear hch
    refine calls_of_wpN Try.func18 rfl ?_
    simp only [Try.ntmps18, List.size_toArray, List.length_cons, List.length_nil, Nat.reduceAdd, Nat.reduceSub, Array.replicate_succ,
     Array.replicate_zero, List.push_toArray, List.append_toArray, List.nil_append, List.cons_append]
    refine .seq_of ?_
    go_wp2
    refine .seq_of ?_
    go_wp2
    refine .seq_of ?_
    go_wp2
    refine .seq_of ?_
    go_wp2
    by_cases hroom : xs.length < cap
    · refine .seq (.comm rfl (w₁ := w) (cases := #[scase c (.int .i64 x) (.int .i64 0)]) (blocking := false) (shape := .select) (by simp [execOp, go_sem, Act.eval, scase])
        (fun fr cs es hs => step_lone_select_send_room hs hch'.out (by simpa using hroom)) ?_)
      simp only [Act.put, List.setIfInBounds_toArray, List.set_cons_succ, List.set_cons_zero, goInt]
      go_wp2
      refine .of ?_
      go_wp2
      go_ret
      refine ⟨by simp [putCode, hroom], ⟨?_, ⟨s + 1, r, ?_⟩, hne, ?_⟩, upd_setChan _ _ _ _ _ _ _ _ _⟩
      · rw [heap_setChan_ne _ hne]; exact hs'.out
      · rw [heap_setChan _ _ _ _ _ _ _ _ (lt_of_block hch'.out)]; simp [putList, hroom]
      · simp [putList, hroom]; omega
    · refine .seq (.comm rfl (w₁ := w) (cases := #[scase c (.int .i64 x) (.int .i64 0)]) (blocking := false) (shape := .select) (by simp [execOp, go_sem, Act.eval, scase])
        (fun fr cs es hs => step_lone_select_send_full hs hch'.out (by simpa using hroom)) ?_)
      simp only [Act.put, List.setIfInBounds_toArray, List.set_cons_succ, List.set_cons_zero, goInt]
      go_wp2
      refine .of ?_
      go_wp2
      go_ret
      refine ⟨by simp [putCode, hroom], ⟨hs'.out, ⟨s, r, ?_⟩, hne, ?_⟩, Upd.refl _ _⟩
      · rw [hch'.out]; simp [putList, hroom]
      · simpa [putList, hroom] using hle

def takeVal (xs : List Value) (z : Value) : Value := xs.headD z
def takeCode (xs : List Value) : Int := if xs = [] then 14 else 0

theorem take_nil (w : World) : Calls Try.prog 20 #[.pointer none] w fun e w' => e = .returned (.tuple #[.int .i64 0, .int .i64 2]) ∧ w' = w := by
  go_enter Try.func20, Try.ntmps20
  go_wp2
  go_ret2
  exact ⟨rfl, rfl⟩

theorem take_any {b c cap : Nat} {xs : List Value} {closed : Bool} {w : World} (h : RingAt 76 w b c cap xs closed) :
    Calls Try.prog 20 #[ringPtr b] w fun e w' => e = .returned (.tuple #[takeVal xs (.int .i64 0), .int .i64 (takeCode xs)]) ∧
      RingAt 76 w' b c cap xs.tail closed ∧ Upd (bc b c) w w' := by
  have hc0 := cell_of_block h.str 0
  simp at hc0
  obtain ⟨hs, ⟨s, r, hch⟩, hne, hle⟩ := h
  have hs' := Lib.hid hs; clear hs
  have hch' := Lib.hid hch; clear hch
  refine calls_of_wpN Try.func20 rfl ?_
  simp only [Try.ntmps20, List.size_toArray, List.length_cons, List.length_nil, Nat.reduceAdd, Nat.reduceSub, Array.replicate_succ,
     Array.replicate_zero, List.push_toArray, List.append_toArray, List.nil_append, List.cons_append]
  refine .seq_of ?_
  go_wp2
  refine .seq_of ?_
  go_wp2
  refine .seq_of ?_
  go_wp2
  refine .seq_of ?_
  go_wp2
  cases xs with
  | cons x xs =>
    refine .seq (.comm rfl (w₁ := w) (cases := #[rcase c (.int .i64 0)]) (blocking := false) (shape := .select) (by simp [execOp, go_sem, Act.eval, rcase])
      (fun fr cs es hs => step_lone_select_recv_buf hs hch'.out (by simp)) ?_)
    simp only [Act.put, List.setIfInBounds_toArray, List.set_cons_succ, List.set_cons_zero, goInt]
    go_wp2
    refine .of ?_
    go_wp2
    go_ret2
    refine ⟨by simp [takeVal, takeCode], ⟨?_, ⟨s, r + 1, ?_⟩, hne, ?_⟩, upd_setChan _ _ _ _ _ _ _ _ _⟩
    · rw [heap_setChan_ne _ hne]; exact hs'.out
    · rw [heap_setChan _ _ _ _ _ _ _ _ (lt_of_block hch'.out)]; simp
    · simp at hle ⊢; omega
  | nil =>
    cases closed with
    | true =>
      refine .seq (.comm rfl (w₁ := w) (cases := #[rcase c (.int .i64 0)]) (blocking := false) (shape := .select) (by simp [execOp, go_sem, Act.eval, rcase])
        (fun fr cs es hs => step_lone_select_recv_shut hs hch'.out) ?_)
      simp only [Act.put, List.setIfInBounds_toArray, List.set_cons_succ, List.set_cons_zero, goInt]
      go_wp2
      refine .of ?_
      go_wp2
      go_ret2
      exact ⟨by simp [takeVal, takeCode], ⟨hs'.out, ⟨s, r, hch'.out⟩, hne, hle⟩, Upd.refl _ _⟩
    | false =>
      refine .seq (.comm rfl (w₁ := w) (cases := #[rcase c (.int .i64 0)]) (blocking := false) (shape := .select) (by simp [execOp, go_sem, Act.eval, rcase])
        (fun fr cs es hs => step_lone_select_default hs hch'.out) ?_)
      simp only [Act.put, List.setIfInBounds_toArray, List.set_cons_succ, List.set_cons_zero, goInt]
      go_wp2
      refine .of ?_
      go_wp2
      go_ret2
      exact ⟨by simp [takeVal, takeCode], ⟨hs'.out, ⟨s, r, hch'.out⟩, hne, hle⟩, Upd.refl _ _⟩

section
variable {b c cap : Nat} {xs : List Value} {closed : Bool} {w : World}
theorem take_some {x : Value} (h : RingAt 76 w b c cap (x :: xs) closed) :
    Calls Try.prog 20 #[ringPtr b] w fun e w' => e = .returned (.tuple #[x, .int .i64 0]) ∧
      RingAt 76 w' b c cap xs closed ∧ Upd (bc b c) w w' := by
  simpa [takeVal, takeCode] using take_any h
theorem take_none (h : RingAt 76 w b c cap [] closed) :
    Calls Try.prog 20 #[ringPtr b] w fun e w' => e = .returned (.tuple #[.int .i64 0, .int .i64 14]) ∧
      RingAt 76 w' b c cap [] closed ∧ Upd (bc b c) w w' := by
  simpa [takeVal, takeCode] using take_any h
theorem put_ok (h : RingAt 76 w b c cap xs false) (x : Int) (hr : xs.length < cap) :
    Calls Try.prog 18 #[ringPtr b, .int .i64 x] w fun e w' => e = .returned (.int .i64 0) ∧
      RingAt 76 w' b c cap (xs ++ [.int .i64 x]) false ∧ Upd (bc b c) w w' := by
  simpa [putCode, putList, hr] using put_any h x
theorem put_full (h : RingAt 76 w b c cap xs false) (x : Int) (hr : ¬ xs.length < cap) :
    Calls Try.prog 18 #[ringPtr b, .int .i64 x] w fun e w' => e = .returned (.int .i64 17) ∧
      RingAt 76 w' b c cap xs false ∧ Upd (bc b c) w w' := by
  simpa only [putCode, putList, hr, Bool.false_eq_true, ↓reduceIte] using put_any h x
theorem put_shut (h : RingAt 76 w b c cap xs true) (x : Int) :
    Calls Try.prog 18 #[ringPtr b, .int .i64 x] w fun e w' => e = .returned (.int .i64 16) ∧
      RingAt 76 w' b c cap xs true ∧ Upd (bc b c) w w' := by
  simpa [putCode, putList] using put_any h x
end
end Go.Proofs.Ytolhlfahoooliaa
