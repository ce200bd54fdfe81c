/- An intent, as a sector. An intent as a sector: PutIntent. The intent that a sector is. Numbers with their sizes; what a thing's numbers are, with the row's capacity. -/
import Derived.Test.YtfhfbpmlnjdfoaaGreatDoorG08
namespace Go.Proofs.YtfhfbpmlnjdfoaaGreatDoor
open Go Go.RowKit
def numsAt (b : Bk) : Nat → List Nat → List Nat
  | _, [] => []
  | p, s :: ss => numB ((b.drop p).take s) :: numsAt b (p + s) ss
theorem numsAt_len (b : Bk) (p : Nat) (ss : List Nat) : (numsAt b p ss).length = ss.length := by
  induction ss generalizing p with
  | nil => rfl
  | cons s ss ih => simp [numsAt, ih]
theorem numsAt_get (b : Bk) (p : Nat) (ss : List Nat) (i : Nat) (hi : i < ss.length) : (numsAt b p ss)[i]'(by rw [numsAt_len]; exact hi) = numB ((b.drop (p + (ss.take i).sum)).take ss[i]) := by
  induction ss generalizing p i with
  | nil => simp at hi
  | cons s ss ih =>
    cases i with
    | zero => simp [numsAt]
    | succ i =>
      simp only [numsAt, List.getElem_cons_succ, List.take_succ_cons, List.sum_cons]
      rw [ih (p + s) i (by simpa using hi), Nat.add_assoc]
theorem sum_take (ss : List Nat) {i : Nat} (hi : i < ss.length) : (ss.take (i + 1)).sum = (ss.take i).sum + ss[i] ∧ (ss.take i).sum + ss[i] ≤ ss.sum := by
  have h := congrArg List.sum (List.take_append_drop (i + 1) ss)
  rw [List.take_succ_eq_append_getElem hi] at h ⊢
  simp only [List.sum_append, List.sum_cons, List.sum_nil] at h ⊢
  omega
def natsI (l : List Nat) : List Int := l.map fun (n : Nat) => (n : Int)
theorem natsI_get {l : List Nat} {i : Nat} (h : i < l.length) : (ints (natsI l))[i]? = some (.int .i64 (l[i] : Int)) := by
  rw [get_ints (by simpa [natsI] using h)]; simp [natsI]
theorem madeZs (n : Nat) : madeCells #[Value.int .i64 0] (n * 1) = (ints (List.replicate n 0)).toArray := by
  apply Array.ext
  · simp [size_madeCells]
  · intro i h1 h2
    have : i % 1 = 0 := Nat.mod_one i
    simp [madeCells, ints, this]
theorem infoInt : (Tryz.prog.info? 3).map (fun i => (i.zero, i.size, i.bytes)) = some (some (.int .i64 0), 1, 8) := by kernel_rfl
theorem makeInts (n : Nat) (hn : n ≤ 100000) (w : World) : (Instr.makeSlice 87 (.int .i64 n) (.int .i64 n)).run Tryz.prog w = .ok (.slice (some ⟨w.heap.size, 0, none⟩) n n) (w.alloc (.cells (ints (List.replicate n 0)).toArray 3)) := by
  obtain ⟨i0, hi, hz0, hz1, hz2⟩ := info_parts infoInt
  have := run_make (P := Tryz.prog) w 87 3 i0 (.int .i64 0) Tryz.underlying87 hi hz0 .i64 .i64 n n (by omega) (by omega) (by rw [hz2]; omega) (by omega)
  rw [this]
  simp only [Int.toNat_natCast, hz1, Value.cells]
  rw [madeZs]
def fillI (l : List Nat) (i : Nat) : List Int := natsI (l.take i) ++ List.replicate (l.length - i) 0
theorem fillI_len (l : List Nat) {i : Nat} (hi : i ≤ l.length) : (fillI l i).length = l.length := by simp [fillI, natsI]; omega
theorem fillI_set (l : List Nat) {i : Nat} (hi : i < l.length) : (fillI l i).set i (l[i] : Int) = fillI l (i + 1) := by
  unfold fillI
  have h1 : (natsI (l.take i)).length = i := by simp [natsI]; omega
  rw [List.set_append_right _ _ (by omega), h1, Nat.sub_self, show l.length - i = (l.length - (i + 1)) + 1 by omega, List.replicate_succ, List.set_cons_zero, List.take_succ_eq_append_getElem hi]
  simp only [natsI, List.map_append, List.map_cons, List.map_nil, List.append_assoc, List.cons_append, List.nil_append]
theorem fillI_all (l : List Nat) : fillI l l.length = natsI l := by simp [fillI]
theorem ints_set (l : List Int) (i : Nat) (x : Int) : (ints l).set i (.int .i64 x) = ints (l.set i x) := by simp [ints, List.map_set]
def okGet (b : Bk) (k : Nat) (ss : List Nat) (mb : Bool) : Bool := decide (sealB b = b) && (decide (numB (b.take 1) = k) && (endB b (1 + ss.sum) && mb))
def cdGet (b : Bk) (k : Nat) (ss : List Nat) (mb : Bool) : Int := if okGet b k ss mb = true then 0 else if sealB b = b then 12 else 13
def GetPost (w : World) (ok : Bool) (ds zs : List Value) (cd : Int) (e : Ending) (w' : World) : Prop :=
  (∃ rs : List Value, (ok = true → rs = ds) ∧ (ok = false → rs = zs) ∧ e = .returned (.tuple #[.agg rs.toArray, .int .i64 cd])) ∧ Below w.heap.size w w'
theorem okGet_seal {b : Bk} {k : Nat} {ss : List Nat} {mb : Bool} (h : sealB b ≠ b) : okGet b k ss mb = false ∧ cdGet b k ss mb = 13 := by
  have : okGet b k ss mb = false := by simp [okGet, h]
  exact ⟨this, by simp [cdGet, this, h]⟩
theorem okGet_no {b : Bk} {k : Nat} {ss : List Nat} {mb : Bool} (hs : sealB b = b) (h : okGet b k ss mb = false) : cdGet b k ss mb = 12 := by simp [cdGet, h, hs]
def TellPostC (W : World) (m : Nat) (xs : List Int) (e : Ending) (W' : World) : Prop := ∃ g c, e = .returned (.slice (some ⟨g, 0, none⟩) m c) ∧ m ≤ c ∧ c ≤ maxLen ∧ W'.rangeAt g 0 (ints xs) ∧ Below W.heap.size W W'
def numL (sz : List Nat) (xs : List Int) : List (Nat × Nat) := (xs.map Int.toNat).zip sz
theorem numL_len {sz : List Nat} {xs : List Int} (h : xs.length = sz.length) : (numL sz xs).length = sz.length := by simp [numL, h]
theorem numL_szs {sz : List Nat} {xs : List Int} (h : xs.length = sz.length) : sizesL (numL sz xs) = natsI sz := by
  unfold sizesL natsI numL
  rw [show (fun (p : Nat × Nat) => (p.2 : Int)) = (fun (n : Nat) => (n : Int)) ∘ Prod.snd from rfl, ← List.map_map, List.map_snd_zip (by simp [h])]
theorem numL_sizes {sz : List Nat} {xs : List Int} (h : xs.length = sz.length) : sizes (numL sz xs) = sz.sum := by
  unfold sizes numL
  rw [List.map_snd_zip (by simp [h])]
theorem numL_nums {sz : List Nat} {xs : List Int} (h : xs.length = sz.length) (h0 : ∀ x ∈ xs, 0 ≤ x) : numsL (numL sz xs) = xs := by
  unfold numsL numL
  rw [show (fun (p : Nat × Nat) => (p.1 : Int)) = (fun (n : Nat) => (n : Int)) ∘ Prod.fst from rfl, ← List.map_map, List.map_fst_zip (by simp [h]), List.map_map]
  conv => rhs; rw [← List.map_id xs]
  exact List.map_congr_left (fun x hx => by simp [Int.toNat_of_nonneg (h0 x hx)])
theorem numL_fits {sz : List Nat} {xs : List Int} (h : xs.length = sz.length) (hs : sz.sum ≤ 59) (hz : ∀ s ∈ sz, 1 ≤ s ∧ s ≤ 7) (hb : ∀ i (h1 : i < xs.length) (h2 : i < sz.length), 0 ≤ xs[i] ∧ xs[i] < 256 ^ sz[i]) : Fits (numL sz xs) := by
  refine ⟨fun p hp => ?_, by rw [numL_sizes h]; exact hs⟩
  obtain ⟨i, hi, rfl⟩ := List.getElem_of_mem hp
  rw [numL_len h] at hi
  have h1 : i < xs.length := by omega
  have := hb i h1 hi
  simp only [numL, List.getElem_zip, List.getElem_map]
  have h3 := hz sz[i] (List.getElem_mem hi)
  refine ⟨?_, h3.1, h3.2⟩
  have h4 : ((256 ^ sz[i] : Nat) : Int) = (256 : Int) ^ sz[i] := by simp
  omega
end Go.Proofs.YtfhfbpmlnjdfoaaGreatDoor
