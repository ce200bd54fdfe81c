/- Bounds of numbers; spans. Intents: their numbers, which may be, and the intent of numbers. The form of intents. Numbers, one behind the other, as bytes. An intent, as a sector. An intent as a sector: PutIntent. -/
import Derived.Test.YtfhfbpmlnjdfoaaGreatDoorA04
import Derived.BigQuiet
import Derived.Laws.EntriesVeiled
namespace Go.Proofs.YtfhfbpmlnjdfoaaGreatDoor
open Go Go.RowKit
def bndC (B : List (Int × Int)) : List Value := B.flatMap fun p => [.int .i64 p.1, .int .i64 p.2]
theorem bndC_at {B : List (Int × Int)} {i : Nat} (hi : i < B.length) : (bndC B)[i * 2]? = some (.int .i64 B[i].1) ∧ (bndC B)[i * 2 + 1]? = some (.int .i64 B[i].2) := by
  induction B generalizing i with
  | nil => simp at hi
  | cons p B ih =>
    cases i with
    | zero => exact ⟨rfl, rfl⟩
    | succ i =>
      have := ih (i := i) (by simpa using hi)
      rw [show (i + 1) * 2 = i * 2 + 2 by omega]
      exact this
def inB (p : Int × Int) (x : Int) : Bool := decide (p.1 ≤ x) && decide (x ≤ p.2)
def withinB (B : List (Int × Int)) (xs : List Int) : Bool := (B.zip xs).all fun q => inB q.1 q.2
def Bnd (w : World) (v : Value) (B : List (Int × Int)) : Prop :=
  ∃ g h c, v = .func (.func 196) #[] #[.pointer (some ⟨g, 0, none⟩)] ∧ w.cell? ⟨g, 0, none⟩ = some (.slice (some ⟨h, 0, none⟩) B.length c) ∧ w.rangeAt h 0 (bndC B)
theorem Bnd.below {w w' : World} {v : Value} {B : List (Int × Int)} (h : Bnd w v B) (hb : Below w.heap.size w w') : Bnd w' v B := by
  obtain ⟨g, k, c, hv, hc, hr⟩ := h
  exact ⟨g, k, c, hv, (Upd.of_below (S := fun _ => False) hb).cellv hc (fun h => h), Below.range hb hr⟩
theorem ints_range {w : World} {g o : Nat} {xs : List Int} (h : w.rangeAt g o (ints xs)) {i : Nat} (hi : i < xs.length) : w.cell? ⟨g, o + i, none⟩ = some (.int .i64 xs[i]) := h i _ (get_ints hi)
theorem all_false_at {α : Type} {l : List α} {p : α → Bool} {k : Nat} (hk : k < l.length) (h : p l[k] = false) : l.all p = false := by
  rw [← Bool.not_eq_true]
  intro e
  rw [List.all_eq_true] at e
  have := e _ (List.getElem_mem hk)
  rw [h] at this; cases this
theorem within_ok {w : World} {h n c : Nat} : Calls Tryz.prog 126 #[.slice (some ⟨h, 0, none⟩) n c] w fun e w' => e = .returned (.func (.func 196) #[] #[.pointer (some ⟨w.heap.size, 0, none⟩)]) ∧ w' = w.alloc (.cells #[.slice (some ⟨h, 0, none⟩) n c] 321) := by
  have hmf : ∀ (fn : Fn) (first cap : Array Value) (w : World), (Instr.makeFunc fn first cap).run Tryz.prog w = .ok (.func fn first cap) w := fun _ _ _ _ => rfl
  go_enter Tryz.func126, Tryz.ntmps126
  go_wp2
  go_ret
  exact ⟨rfl, rfl⟩
theorem Bnd.made {w : World} {h c : Nat} {B : List (Int × Int)} (hr : w.rangeAt h 0 (bndC B)) : Bnd (w.alloc (.cells #[.slice (some ⟨h, 0, none⟩) B.length c] 321)) (.func (.func 196) #[] #[.pointer (some ⟨w.heap.size, 0, none⟩)]) B :=
  ⟨w.heap.size, h, c, rfl, cell_of_block (heap_alloc_last w _ rfl) 0, World.rangeAt_alloc hr _⟩
set_option maxRecDepth 100000 in
set_option maxHeartbeats 1000000 in
theorem within_any {w : World} {g h c gl ol m cl : Nat} (B : List (Int × Int)) (xs : List Int) (hc : w.cell? ⟨g, 0, none⟩ = some (.slice (some ⟨h, 0, none⟩) B.length c)) (hr : w.rangeAt h 0 (bndC B)) (hx : w.rangeAt gl ol (ints xs)) (hm : xs.length = m) (hB : B.length ≤ m) (hm2 : m ≤ 100) :
    Calls Tryz.prog 196 #[.slice (some ⟨gl, ol, none⟩) m cl, .pointer (some ⟨g, 0, none⟩)] w fun e w' => e = .returned (.bool (withinB B xs)) ∧ Below w.heap.size w w' := by
  have H := Lib.hid (And.intro hr (And.intro hx hm))
  clear hr hx hm
  go_enter Tryz.func196, Tryz.ntmps196
  go_wp2
  go_loopw [8] (fun s8 wr => ∃ k : Nat, k ≤ B.length ∧ s8 = .int .i64 k ∧ Below w.heap.size w wr ∧ ((B.zip xs).take k).all (fun q => inB q.1 q.2) = true) (fun s8 _ => B.length - (intOf s8).toNat)
  case atStart => exact ⟨0, Nat.zero_le _, rfl, Below.refl _ _, by simp⟩
  case round =>
    obtain ⟨k, hk, rfl, hb, ha⟩ := hrel
    have HA := Lib.hid (And.intro ha hb)
    by_cases hlt : k < B.length
    · obtain ⟨hr, hx, hm⟩ := H.out
      have hkx : k < xs.length := by omega
      have r1 := (Below.range hb hr) (k * 2) _ (bndC_at hlt).1
      have r2 := (Below.range hb hr) (k * 2 + 1) _ (bndC_at hlt).2
      have rx := ints_range (Below.range hb hx) hkx
      rw [Nat.zero_add] at r1 r2
      have hts : Hid (((B.zip xs).take (k + 1)) = (B.zip xs).take k ++ [(B[k], xs[k])]) := by
        show _ = _
        rw [List.take_succ_eq_append_getElem (by rw [List.length_zip]; omega), List.getElem_zip]
      obtain ⟨lo, hi, hp⟩ : ∃ lo hi, B[k] = (lo, hi) := ⟨_, _, rfl⟩
      have HP := Lib.hid hp
      rw [hp] at r1 r2
      simp only at r1 r2
      have b3 : (0 : Int) ≤ (k : Int) ∧ (k : Int) < (B.length : Int) ∧ (k : Int) < (m : Int) := by omega
      have hbl : wr.heap.size ≤ wr.heap.size := Nat.le_refl _
      clear hp ha hr hx hm hb
      obtain ⟨b3, b4, b5⟩ := b3
      obtain ⟨x, hxk⟩ : ∃ x, xs[k] = x := ⟨_, rfl⟩
      have HX := Lib.hid hxk
      rw [hxk] at rx
      have hglt : gl < wr.heap.size := World.block_lt_of_cell? wr _ rx
      clear hxk
      have hblw : Below w.heap.size w (wr.alloc (.cells #[.int .i64 lo, .int .i64 hi] 219)) := HA.out.2.alloc HA.out.2.size _
      by_cases h1 : x < lo
      · have hin : Hid (withinB B xs = false) := by
          show _ = _
          refine all_false_at (k := k) (by rw [List.length_zip]; omega) ?_
          rw [List.getElem_zip, HP.out, HX.out]
          simp [inB]; omega
        have q1 : decide (x < lo) = true := by simpa using h1
        clear h1
        have HB := Lib.hid hblw
        clear hblw
        go_wp2
        go_quiet (fail)
        go_wp2
        go_ret
        exact ⟨by rw [hin.out]; rfl, below_drewN HB.out _⟩
      · by_cases h2 : hi < x
        · have hin : Hid (withinB B xs = false) := by
            show _ = _
            refine all_false_at (k := k) (by rw [List.length_zip]; omega) ?_
            rw [List.getElem_zip, HP.out, HX.out]
            simp [inB]; omega
          have q1 : decide (x < lo) = false := by simpa using h1
          have q2 : decide (hi < x) = true := by simpa using h2
          clear h1 h2
          have HB := Lib.hid hblw
          clear hblw
          go_wp2
          go_quiet (fail)
          go_wp2
          go_ret
          exact ⟨by rw [hin.out]; rfl, below_drewN HB.out _⟩
        · have hin : Hid (inB (B[k], xs[k]).1 (B[k], xs[k]).2 = true) := by
            show _ = _
            rw [HP.out, HX.out]
            simp [inB]; omega
          have q1 : decide (x < lo) = false := by simpa using h1
          have q2 : decide (hi < x) = false := by simpa using h2
          clear h1 h2
          have HB := Lib.hid hblw
          clear hblw
          go_wp2
          go_quiet (fail)
          go_wp2
          go_roundw
          case rel => exact ⟨k + 1, by omega, by go_num, below_drewN HB.out _, by rw [hts.out, List.all_append, HA.out.1]; simpa using hin.out⟩
          case measure => simp [intOf]; omega
    · obtain rfl : k = B.length := by omega
      have hin : Hid (withinB B xs = true) := by
        have := HA.out.1
        rw [List.take_of_length_le (by rw [List.length_zip]; omega)] at this
        exact this
      go_wp2
      go_ret
      exact ⟨by rw [hin.out]; rfl, HA.out.2⟩
theorem infoIn : (Tryz.prog.info? 154).map (·.size) = some 4 := by kernel_rfl
theorem five_new (w : World) (A B C D E : Obj) : let W := ((((w.alloc A).alloc B).alloc C).alloc D).alloc E
    W.heap[w.heap.size]? = some A ∧ W.heap[w.heap.size + 1]? = some B ∧ W.heap[w.heap.size + 1 + 1]? = some C ∧ W.heap[w.heap.size + 1 + 1 + 1]? = some D ∧ W.heap[w.heap.size + 1 + 1 + 1 + 1]? = some E ∧ W.heap.size = w.heap.size + 5 ∧ Upd (fun _ => False) w W := by
  obtain ⟨h1, h2, h3, h4, h5, h6⟩ := four_new w A B C D
  refine ⟨?_, ?_, ?_, ?_, heap_alloc_last _ _ (by simp), by simp, h6.alloc _⟩
  · rw [Below.heap_alloc _ _ _ (lt_of_block h1)]; exact h1
  · rw [Below.heap_alloc _ _ _ (lt_of_block h2)]; exact h2
  · rw [Below.heap_alloc _ _ _ (lt_of_block h3)]; exact h3
  · rw [Below.heap_alloc _ _ _ (lt_of_block h4)]; exact h4
def encB (l : List (Nat × Nat)) : List UInt8 := l.flatMap fun p => lowB p.1 p.2
theorem encB_snoc (l : List (Nat × Nat)) (p : Nat × Nat) : encB (l ++ [p]) = encB l ++ lowB p.1 p.2 := by simp [encB]
def sizes (l : List (Nat × Nat)) : Nat := (l.map (·.2)).sum
theorem encB_len (l : List (Nat × Nat)) : (encB l).length = sizes l := by
  induction l with
  | nil => rfl
  | cons p l ih => simp only [encB, sizes, List.flatMap_cons, List.length_append, lowB_len, List.map_cons, List.sum_cons] at ih ⊢; rw [ih]
theorem sizes_take (l : List (Nat × Nat)) {i : Nat} (hi : i < l.length) : sizes (l.take i) + l[i].2 ≤ sizes l := by
  have h := congrArg sizes (List.take_append_drop (i + 1) l)
  rw [List.take_succ_eq_append_getElem hi] at h
  simp only [sizes, List.map_append, List.sum_append, List.map_cons, List.map_nil, List.sum_cons, List.sum_nil] at h ⊢
  omega
def Fits (l : List (Nat × Nat)) : Prop := (∀ p ∈ l, p.1 < 256 ^ p.2 ∧ 1 ≤ p.2 ∧ p.2 ≤ 7) ∧ sizes l ≤ 59
def numsL (l : List (Nat × Nat)) : List Int := l.map fun p => (p.1 : Int)
def sizesL (l : List (Nat × Nat)) : List Int := l.map fun p => (p.2 : Int)
theorem numsL_get {l : List (Nat × Nat)} {i : Nat} (h : i < l.length) : (ints (numsL l))[i]? = some (.int .i64 (l[i].1 : Int)) := by
  rw [get_ints (by simpa [numsL] using h)]; simp [numsL]
theorem sizesL_get {l : List (Nat × Nat)} {i : Nat} (h : i < l.length) : (ints (sizesL l))[i]? = some (.int .i64 (l[i].2 : Int)) := by
  rw [get_ints (by simpa [sizesL] using h)]; simp [sizesL]
def sectB (k : Nat) (l : List (Nat × Nat)) : Bk := sealB (padB (lowB k 1 ++ encB l))
theorem sect_pad_len {k : Nat} {l : List (Nat × Nat)} (h : sizes l ≤ 59) : (padB (lowB k 1 ++ encB l)).length = 64 := padB_len (by simp [lowB_len, encB_len]; omega)
theorem sectB_len {k : Nat} {l : List (Nat × Nat)} (h : sizes l ≤ 59) : (sectB k l).length = 64 := sealB_len (sect_pad_len h)
theorem three_new (w : World) (A B C : Obj) : let W := ((w.alloc A).alloc B).alloc C
    W.heap[w.heap.size]? = some A ∧ W.heap[w.heap.size + 1]? = some B ∧ W.heap[w.heap.size + 1 + 1]? = some C ∧ W.heap.size = w.heap.size + 3 ∧ Upd (fun _ => False) w W := by
  refine ⟨?_, ?_, heap_alloc_last _ _ (by simp), by simp, (((Upd.refl _ w).alloc _).alloc _).alloc _⟩
  · rw [Below.heap_alloc _ _ _ (by simp <;> omega), Below.heap_alloc _ _ _ (by simp)]; exact heap_alloc_last w _ rfl
  · rw [Below.heap_alloc _ _ _ (by simp)]; exact heap_alloc_last _ _ (by simp)
end Go.Proofs.YtfhfbpmlnjdfoaaGreatDoor
