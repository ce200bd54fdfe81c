/- The intent that a sector is. Numbers with their sizes; what a thing's numbers are, with the row's capacity. Pages: their numbers. Records: their numbers, which may be. -/
import Derived.Test.YtfhfbpmlnjdfoaaGreatDoorA05
import Derived.Laws.Cover3
import Derived.Test.YtfhfbpmlnjdfoaaGreatDoorA01
namespace Go.Proofs.YtfhfbpmlnjdfoaaGreatDoor
open Go Go.RowKit
def numsAt (b : Bk) : Nat → List Nat → List Nat
  | _, [] => []
  | p, s :: ss => numB ((b.drop p).take s) :: numsAt b (p + s) ss
theorem numsAt_len (b : Bk) (p : Nat) (ss : List Nat) : (numsAt b p ss).length = ss.length := by
  induction ss generalizing p with
  | nil => rfl
  | cons s ss ih => simp [numsAt, ih]
theorem numsAt_get (b : Bk) (p : Nat) (ss : List Nat) (i : Nat) (hi : i < ss.length) : (numsAt b p ss)[i]'(by rw [numsAt_len]; exact hi) = numB ((b.drop (p + (ss.take i).sum)).take ss[i]) := by
  induction ss generalizing p i with
  | nil => simp at hi
  | cons s ss ih =>
    cases i with
    | zero => simp [numsAt]
    | succ i =>
      simp only [numsAt, List.getElem_cons_succ, List.take_succ_cons, List.sum_cons]
      rw [ih (p + s) i (by simpa using hi), Nat.add_assoc]
theorem sum_take (ss : List Nat) {i : Nat} (hi : i < ss.length) : (ss.take (i + 1)).sum = (ss.take i).sum + ss[i] ∧ (ss.take i).sum + ss[i] ≤ ss.sum := by
  have h := congrArg List.sum (List.take_append_drop (i + 1) ss)
  rw [List.take_succ_eq_append_getElem hi] at h ⊢
  simp only [List.sum_append, List.sum_cons, List.sum_nil] at h ⊢
  omega
def natsI (l : List Nat) : List Int := l.map fun (n : Nat) => (n : Int)
theorem natsI_get {l : List Nat} {i : Nat} (h : i < l.length) : (ints (natsI l))[i]? = some (.int .i64 (l[i] : Int)) := by
  rw [get_ints (by simpa [natsI] using h)]; simp [natsI]
theorem madeZs (n : Nat) : madeCells #[Value.int .i64 0] (n * 1) = (ints (List.replicate n 0)).toArray := by
  apply Array.ext
  · simp [size_madeCells]
  · intro i h1 h2
    have : i % 1 = 0 := Nat.mod_one i
    simp [madeCells, ints, this]
theorem infoInt : (Tryz.prog.info? 3).map (fun i => (i.zero, i.size, i.bytes)) = some (some (.int .i64 0), 1, 8) := by kernel_rfl
theorem makeInts (n : Nat) (hn : n ≤ 100000) (w : World) : (Instr.makeSlice 87 (.int .i64 n) (.int .i64 n)).run Tryz.prog w = .ok (.slice (some ⟨w.heap.size, 0, none⟩) n n) (w.alloc (.cells (ints (List.replicate n 0)).toArray 3)) := by
  obtain ⟨i0, hi, hz0, hz1, hz2⟩ := info_parts infoInt
  have := run_make (P := Tryz.prog) w 87 3 i0 (.int .i64 0) Tryz.underlying87 hi hz0 .i64 .i64 n n (by omega) (by omega) (by rw [hz2]; omega) (by omega)
  rw [this]
  simp only [Int.toNat_natCast, hz1, Value.cells]
  rw [madeZs]
def fillI (l : List Nat) (i : Nat) : List Int := natsI (l.take i) ++ List.replicate (l.length - i) 0
theorem fillI_len (l : List Nat) {i : Nat} (hi : i ≤ l.length) : (fillI l i).length = l.length := by simp [fillI, natsI]; omega
theorem fillI_set (l : List Nat) {i : Nat} (hi : i < l.length) : (fillI l i).set i (l[i] : Int) = fillI l (i + 1) := by
  unfold fillI
  have h1 : (natsI (l.take i)).length = i := by simp [natsI]; omega
  rw [List.set_append_right _ _ (by omega), h1, Nat.sub_self, show l.length - i = (l.length - (i + 1)) + 1 by omega, List.replicate_succ, List.set_cons_zero, List.take_succ_eq_append_getElem hi]
  simp only [natsI, List.map_append, List.map_cons, List.map_nil, List.append_assoc, List.cons_append, List.nil_append]
theorem fillI_all (l : List Nat) : fillI l l.length = natsI l := by simp [fillI]
theorem ints_set (l : List Int) (i : Nat) (x : Int) : (ints l).set i (.int .i64 x) = ints (l.set i x) := by simp [ints, List.map_set]
def okGet (b : Bk) (k : Nat) (ss : List Nat) (mb : Bool) : Bool := decide (sealB b = b) && (decide (numB (b.take 1) = k) && (endB b (1 + ss.sum) && mb))
def cdGet (b : Bk) (k : Nat) (ss : List Nat) (mb : Bool) : Int := if okGet b k ss mb = true then 0 else if sealB b = b then 12 else 13
def GetPost (w : World) (ok : Bool) (ds zs : List Value) (cd : Int) (e : Ending) (w' : World) : Prop :=
  (∃ rs : List Value, (ok = true → rs = ds) ∧ (ok = false → rs = zs) ∧ e = .returned (.tuple #[.agg rs.toArray, .int .i64 cd])) ∧ Below w.heap.size w w'
theorem okGet_seal {b : Bk} {k : Nat} {ss : List Nat} {mb : Bool} (h : sealB b ≠ b) : okGet b k ss mb = false ∧ cdGet b k ss mb = 13 := by
  have : okGet b k ss mb = false := by simp [okGet, h]
  exact ⟨this, by simp [cdGet, this, h]⟩
theorem okGet_no {b : Bk} {k : Nat} {ss : List Nat} {mb : Bool} (hs : sealB b = b) (h : okGet b k ss mb = false) : cdGet b k ss mb = 12 := by simp [cdGet, h, hs]
def TellPostC (W : World) (m : Nat) (xs : List Int) (e : Ending) (W' : World) : Prop := ∃ g c, e = .returned (.slice (some ⟨g, 0, none⟩) m c) ∧ m ≤ c ∧ c ≤ maxLen ∧ W'.rangeAt g 0 (ints xs) ∧ Below W.heap.size W W'
def numL (sz : List Nat) (xs : List Int) : List (Nat × Nat) := (xs.map Int.toNat).zip sz
theorem numL_len {sz : List Nat} {xs : List Int} (h : xs.length = sz.length) : (numL sz xs).length = sz.length := by simp [numL, h]
theorem numL_szs {sz : List Nat} {xs : List Int} (h : xs.length = sz.length) : sizesL (numL sz xs) = natsI sz := by
  unfold sizesL natsI numL
  rw [show (fun (p : Nat × Nat) => (p.2 : Int)) = (fun (n : Nat) => (n : Int)) ∘ Prod.snd from rfl, ← List.map_map, List.map_snd_zip (by simp [h])]
theorem numL_sizes {sz : List Nat} {xs : List Int} (h : xs.length = sz.length) : sizes (numL sz xs) = sz.sum := by
  unfold sizes numL
  rw [List.map_snd_zip (by simp [h])]
theorem numL_nums {sz : List Nat} {xs : List Int} (h : xs.length = sz.length) (h0 : ∀ x ∈ xs, 0 ≤ x) : numsL (numL sz xs) = xs := by
  unfold numsL numL
  rw [show (fun (p : Nat × Nat) => (p.1 : Int)) = (fun (n : Nat) => (n : Int)) ∘ Prod.fst from rfl, ← List.map_map, List.map_fst_zip (by simp [h]), List.map_map]
  conv => rhs; rw [← List.map_id xs]
  exact List.map_congr_left (fun x hx => by simp [Int.toNat_of_nonneg (h0 x hx)])
theorem numL_fits {sz : List Nat} {xs : List Int} (h : xs.length = sz.length) (hs : sz.sum ≤ 59) (hz : ∀ s ∈ sz, 1 ≤ s ∧ s ≤ 7) (hb : ∀ i (h1 : i < xs.length) (h2 : i < sz.length), 0 ≤ xs[i] ∧ xs[i] < 256 ^ sz[i]) : Fits (numL sz xs) := by
  refine ⟨fun p hp => ?_, by rw [numL_sizes h]; exact hs⟩
  obtain ⟨i, hi, rfl⟩ := List.getElem_of_mem hp
  rw [numL_len h] at hi
  have h1 : i < xs.length := by omega
  have := hb i h1 hi
  simp only [numL, List.getElem_zip, List.getElem_map]
  have h3 := hz sz[i] (List.getElem_mem hi)
  refine ⟨?_, h3.1, h3.2⟩
  have h4 : ((256 ^ sz[i] : Nat) : Int) = (256 : Int) ^ sz[i] := by simp
  omega
structure Ent where
  b : Nat
  s : Nat
  d : Bool
  m : Nat
def Ent.none : Ent := ⟨0, 0, false, 0⟩
def bitN (d : Bool) : Nat := if d then 1 else 0
def entC (x : Ent) : List Value := [.int .i64 (x.b : Int), .int .i64 (x.s : Int), .bool x.d, .int .i64 (x.m : Int)]
def entN (x : Ent) : List Nat := [x.b, x.s, bitN x.d, x.m]
def pgC (seq no of many : Nat) (E : List Ent) : List Value := [.int .i64 (seq : Int), .int .i64 (no : Int), .int .i64 (of : Int), .int .i64 (many : Int)] ++ E.flatMap entC
def pgN (seq no of many : Nat) (E : List Ent) : List Nat := [seq, no, of, many] ++ E.flatMap entN
theorem entC_len (x : Ent) : (entC x).length = 4 := rfl
theorem entC_one (x : Ent) : ∀ v ∈ entC x, v.oneCell' = true := by
  intro v hv
  simp only [entC, List.mem_cons, List.not_mem_nil, or_false] at hv
  rcases hv with rfl | rfl | rfl | rfl <;> rfl
theorem ents_len (E : List Ent) : (E.flatMap entC).length = E.length * 4 := length_flat (f := entC) (fun _ => rfl) E
theorem ents_at {E : List Ent} {i : Nat} (hi : i < E.length) : ((E.flatMap entC).drop (i * 4)).take 4 = entC (E.getD i Ent.none) := by
  induction E generalizing i with
  | nil => simp at hi
  | cons x E ih =>
    cases i with
    | zero => rfl
    | succ i =>
      rw [List.flatMap_cons, show (i + 1) * 4 = (entC x).length + i * 4 by rw [entC_len]; omega, List.drop_length_add_append]
      simpa using ih (i := i) (by simpa using hi)
theorem bit_any (d : Bool) (w : World) : Calls Tryz.prog 251 #[.bool d] w fun e w' => e = .returned (.int .i64 (bitN d : Int)) ∧ w = w' := by
  cases d
  all_goals
    go_enter Tryz.func251, Tryz.ntmps251
    go_wp2
    go_ret
    exact ⟨rfl, rfl⟩
theorem infoPg : (Tryz.prog.info? 280).map (·.size) = some 20 := by kernel_rfl
theorem infoEs : (Tryz.prog.info? 278).map (·.size) = some 16 := by kernel_rfl
theorem infoEn : (Tryz.prog.info? 37).map (·.size) = some 4 := by kernel_rfl
theorem run_index_ents {E : List Ent} (hE : E.length = 4) {k : Nat} (hk : k < 4) (w : World) :
    (Instr.index 278 (.agg (E.flatMap entC).toArray) (.int .i64 (k : Int))).run Tryz.prog w = .ok (.agg (entC (E.getD k Ent.none)).toArray) w := by
  have hu := Tryz.underlying37
  obtain ⟨i, hi, hs⟩ := Option.map_eq_some_iff.1 infoEn
  have hz : (Array.extract (E.flatMap entC).toArray (k * 4) (k * 4 + 4)) = (entC (E.getD k Ent.none)).toArray := by
    apply Array.toList_inj.1
    rw [Array.toList_extract]
    simp only [List.extract]
    rw [show k * 4 + 4 - k * 4 = 4 by omega]
    exact ents_at (by omega)
  have hz2 := ents_at (E := E) (i := k) (by omega)
  simp [Instr.index, asIntOf, run_underlying Tryz.underlying278, sizeOf, typeInfo, hi, hs, part, isAgg, run_underlying hu, hk, hz2]
theorem infoIn1 : (Tryz.prog.info? 3).map (fun i => (i.zero, i.size, i.bytes)) = some (some (.int .i64 0), 1, 8) := by kernel_rfl
set_option maxRecDepth 100000 in
set_option maxHeartbeats 2000000 in
theorem tellP {w : World} (seq no of many : Nat) (E : List Ent) (hE : E.length = 4) :
    Calls Tryz.prog 307 #[.agg (pgC seq no of many E).toArray] w (TellPostC w 20 (natsI (pgN seq no of many E))) := by
  obtain ⟨i0, hi, hz0, hz1, hz2⟩ := info_parts infoIn1
  obtain ⟨L, hL⟩ : ∃ L, L = (pgC seq no of many E).toArray := ⟨_, rfl⟩
  have hg := heap_alloc_last w (.cells L 280) rfl
  have k0 : (w.alloc (.cells L 280)).cell? ⟨w.heap.size, 0, none⟩ = some (.int .i64 (seq : Int)) := (cell_of_block hg 0).trans (by rw [hL]; rfl)
  have k1 : (w.alloc (.cells L 280)).cell? ⟨w.heap.size, 1, none⟩ = some (.int .i64 (no : Int)) := (cell_of_block hg 1).trans (by rw [hL]; rfl)
  have k2 : (w.alloc (.cells L 280)).cell? ⟨w.heap.size, 2, none⟩ = some (.int .i64 (of : Int)) := (cell_of_block hg 2).trans (by rw [hL]; rfl)
  have k3 : (w.alloc (.cells L 280)).cell? ⟨w.heap.size, 3, none⟩ = some (.int .i64 (many : Int)) := (cell_of_block hg 3).trans (by rw [hL]; rfl)
  have hr : (w.alloc (.cells L 280)).rangeAt w.heap.size 4 (E.flatMap entC) := fun j v hv => by
    rw [cell_of_block hg, hL, List.getElem?_toArray, pgC, List.getElem?_append_right (by simp)]
    rw [← hv]; congr 1; simp
  have hsz : (Tryz.prog.info? 278).map (·.size) = some (E.flatMap entC).length := by rw [ents_len, hE]; exact infoEs
  have hix := fun (k : Nat) (hk : k < 4) (w : World) => run_index_ents hE hk w
  have HI := Lib.hid (And.intro hix hE)
  rw [← hL]
  have hR := World.rangeAt_alloc hr (.cells #[.int .i64 (seq : Int), .int .i64 (no : Int), .int .i64 (of : Int), .int .i64 (many : Int)] 3)
  have HL := Lib.hid hL
  clear hL hix hE hg hr
  go_enter Tryz.func307, Tryz.ntmps307
  go_wp2_with (first
    | refine wpList_load_mid rfl _ _ rfl _ _ rfl _ _ hR Tryz.underlying278 rfl hsz ?_
    | fail)
  have hrow : (w.alloc (.cells L 280)).alloc (.cells #[.int .i64 (seq : Int), .int .i64 (no : Int), .int .i64 (of : Int), .int .i64 (many : Int)] 3) = (w.alloc (.cells L 280)).alloc (.cells #[.int .i64 (seq : Int), .int .i64 (no : Int), .int .i64 (of : Int), .int .i64 (many : Int)] 3) := rfl
  have hown : ((w.alloc (.cells L 280)).alloc (.cells #[.int .i64 (seq : Int), .int .i64 (no : Int), .int .i64 (of : Int), .int .i64 (many : Int)] 3)).ownsRow w.heap.size 3 1 (.slice (some ⟨w.heap.size + 1, 0, none⟩) 4 4) 4 (ints (natsI ([seq, no, of, many] ++ (E.take 0).flatMap entN))) := by
    refine ⟨by simp [natsI], .inr ⟨w.heap.size + 1, 4, _, rfl, by omega, heap_alloc_last _ _ (by simp), by omega, by unfold maxLen; omega, by simp, by simp [natsI, ints]⟩⟩
  have hB : Below w.heap.size w ((w.alloc (.cells L 280)).alloc (.cells #[.int .i64 (seq : Int), .int .i64 (no : Int), .int .i64 (of : Int), .int .i64 (many : Int)] 3)) := ((Below.refl _ w).alloc (Nat.le_refl _) _).alloc (by simp) _
  generalize (w.alloc (.cells L 280)).alloc (.cells #[.int .i64 (seq : Int), .int .i64 (no : Int), .int .i64 (of : Int), .int .i64 (many : Int)] 3) = w2 at *
  have HO := Lib.hid (And.intro hown hB)
  clear hown hB hR hsz k0 k1 k2 k3 hrow
  go_loopw [3, 17] (fun s3 s17 wr => ∃ k : Nat, k ≤ 4 ∧ s17 = .int .i64 k ∧ wr.ownsRow w.heap.size 3 1 s3 (4 + 4 * k) (ints (natsI ([seq, no, of, many] ++ (E.take k).flatMap entN))) ∧ Below w.heap.size w wr) (fun _ s17 _ => 4 - (intOf s17).toNat)
  case atStart => exact ⟨0, by omega, rfl, HO.out.1, HO.out.2⟩
  case round =>
    obtain ⟨k, hk, rfl, hown, hb⟩ := hrel
    by_cases hlt : k < 4
    · have hEk := HI.out.1 k hlt
      have hts : Hid ((E.take (k + 1)).flatMap entN = (E.take k).flatMap entN ++ entN (E.getD k Ent.none)) := by
        show _ = _
        have hk2 : k < E.length := by have := HI.out.2; omega
        rw [List.take_succ_eq_append_getElem hk2, List.flatMap_append]
        simp [List.getD_eq_getElem?_getD, hk2]
      generalize E.getD k Ent.none = x at *
      obtain ⟨xb, xs, xd, xm⟩ := x
      have hXL : Hid ((entC ⟨xb, xs, xd, xm⟩).toArray = #[Value.int .i64 (xb : Int), .int .i64 (xs : Int), .bool xd, .int .i64 (xm : Int)]) := rfl
      rw [hXL.out] at hEk
      have b1 : (0 : Int) ≤ (k : Int) := by omega
      have b2 : (k : Int) < 4 := by omega
      have hO := Lib.hid (And.intro hown hb)
      have hg3 := heap_alloc_last wr (.cells #[Value.int .i64 (xb : Int), .int .i64 (xs : Int), .bool xd, .int .i64 (xm : Int)] 37) rfl
      have hown3 := hO.out.1.alloc (.cells #[Value.int .i64 (xb : Int), .int .i64 (xs : Int), .bool xd, .int .i64 (xm : Int)] 37)
      have hb3 := hO.out.2.alloc hO.out.2.size (.cells #[Value.int .i64 (xb : Int), .int .i64 (xs : Int), .bool xd, .int .i64 (xm : Int)] 37)
      have hnm : ¬ u3.ownBlock = some wr.heap.size := fun e => by have := (hO.out.1.lt _ e).2; omega
      clear hown hb
      go_wp2
      generalize wr.alloc (.cells #[Value.int .i64 (xb : Int), .int .i64 (xs : Int), .bool xd, .int .i64 (xm : Int)] 37) = w3 at *
      generalize wr.heap.size = m at *
      have k0 : w3.cell? ⟨m, 0, none⟩ = some (.int .i64 (xb : Int)) := cell_of_block hg3 0
      have k1 : w3.cell? ⟨m, 1, none⟩ = some (.int .i64 (xs : Int)) := cell_of_block hg3 1
      have k2 : w3.cell? ⟨m, 2, none⟩ = some (.bool xd) := cell_of_block hg3 2
      have k3 : w3.cell? ⟨m, 3, none⟩ = some (.int .i64 (xm : Int)) := cell_of_block hg3 3
      have hownA := (hown3.alloc (.cells #[Value.int .i64 (xb : Int), .int .i64 (xs : Int), .int .i64 (bitN xd : Int), .int .i64 (xm : Int)] 3)).drew
      have hbA : Below w.heap.size w (w3.alloc (.cells #[Value.int .i64 (xb : Int), .int .i64 (xs : Int), .int .i64 (bitN xd : Int), .int .i64 (xm : Int)] 3)).drew := below_drewN (hb3.alloc hb3.size _) 1
      have hgA : (w3.alloc (.cells #[Value.int .i64 (xb : Int), .int .i64 (xs : Int), .int .i64 (bitN xd : Int), .int .i64 (xm : Int)] 3)).drew.heap[w3.heap.size]? = _ := heap_alloc_last w3 (.cells #[Value.int .i64 (xb : Int), .int .i64 (xs : Int), .int .i64 (bitN xd : Int), .int .i64 (xm : Int)] 3) rfl
      obtain ⟨v', w1, hrun, ho1, hgr, -⟩ := run_append_own (P := Tryz.prog) (w := (w3.alloc (.cells #[Value.int .i64 (xb : Int), .int .i64 (xs : Int), .int .i64 (bitN xd : Int), .int .i64 (xm : Int)] 3)).drew) w.heap.size 87 87 3 i0 (.int .i64 0) 1 8 Tryz.underlying87 hi hz0 hz1 hz2 rfl (by decide) u3 (4 + 4 * k) _ hownA ⟨w3.heap.size, 0, none⟩ 4 4 [.int .i64 (xb : Int), .int .i64 (xs : Int), .int .i64 (bitN xd : Int), .int .i64 (xm : Int)] rfl
        (fun j u hj => by rw [Addr.add_lit, cell_of_block hgA]; simpa using hj) (by intro u hu; simp at hu; rcases hu with rfl | rfl | rfl | rfl <;> rfl) (by unfold maxLen; omega) (by omega) hbA.size
      have hb1 : Below w.heap.size w w1 := below_upd hbA (Upd.of_grown (S := fun j => w.heap.size ≤ j) hgr (fun g hg _ => (hownA.lt g hg).1)) (Nat.le_refl _) (fun k h => h)
      have hgu : Upd (fun j => u3.ownBlock = some j) _ w1 := Upd.of_grown (S := fun j => u3.ownBlock = some j) hgr (fun g hg _ => hg)
      have q0 := hgu.cellv (w := (w3.alloc (.cells #[Value.int .i64 (xb : Int), .int .i64 (xs : Int), .int .i64 (bitN xd : Int), .int .i64 (xm : Int)] 3)).drew) (cell_keep_alloc k0 _) hnm
      have q1 := hgu.cellv (w := (w3.alloc (.cells #[Value.int .i64 (xb : Int), .int .i64 (xs : Int), .int .i64 (bitN xd : Int), .int .i64 (xm : Int)] 3)).drew) (cell_keep_alloc k1 _) hnm
      have q2 := hgu.cellv (w := (w3.alloc (.cells #[Value.int .i64 (xb : Int), .int .i64 (xs : Int), .int .i64 (bitN xd : Int), .int .i64 (xm : Int)] 3)).drew) (cell_keep_alloc k2 _) hnm
      have q3 := hgu.cellv (w := (w3.alloc (.cells #[Value.int .i64 (xb : Int), .int .i64 (xs : Int), .int .i64 (bitN xd : Int), .int .i64 (xm : Int)] 3)).drew) (cell_keep_alloc k3 _) hnm
      have HF := Lib.hid (And.intro ho1 hb1)
      clear hownA hbA hgA ho1 hgr hb1 hown3 hb3 hg3 hEk hgu
      go_region_held3 (fun W => W.cell? ⟨m, 0, none⟩ = some (.int .i64 (xb : Int)) ∧ W.cell? ⟨m, 1, none⟩ = some (.int .i64 (xs : Int)) ∧ W.cell? ⟨m, 2, none⟩ = some (.bool xd) ∧ W.cell? ⟨m, 3, none⟩ = some (.int .i64 (xm : Int)))
        ((go_split_ands; (simp only [World.cell?_drew] at *); ((repeat' constructor) <;> first | assumption | (apply cell_keep_alloc; assumption) | exact trivial)))
        (first | (go_at_call 251; refine (bit_any _ _).mono ?_; rintro e w' ⟨rfl, rfl⟩) | (refine step_append_run rfl _ _ _ rfl rfl rfl hrun ?_))
      go_wp2
      go_roundw
      case rel =>
        refine ⟨k + 1, by omega, by go_num, ?_, HF.out.2⟩
        have := HF.out.1
        rw [hts.out, show 4 + 4 * (k + 1) = 4 + 4 * k + 4 by omega]
        simpa [ints, natsI, entN] using this
      case measure => simp [intOf]; omega
    · obtain rfl : k = 4 := by omega
      have HX := Lib.hid (And.intro hown hb)
      clear hown hb
      go_wp2
      go_ret
      obtain ⟨hown, hb⟩ := HX.out
      rw [List.take_of_length_le (by have := HI.out.2; omega)] at hown
      obtain ⟨hl, ⟨_, h0⟩ | ⟨g, cap, cur, rfl, -, hg, hn, hcm, hs, ht⟩⟩ := hown
      · omega
      · refine ⟨g, cap, rfl, hn, hcm, fun j v hv => ?_, hb⟩
        rw [cell_of_block hg, ← Array.getElem?_toList]
        have hv' : (cur.toList.take ((4 + 4 * 4) * 1))[j]? = some v := by rw [ht]; exact hv
        rw [List.getElem?_take] at hv'
        split at hv'
        · simpa using hv'
        · cases hv'
def bndR : List (Int × Int) := [(1, 1099511627776), (0, 1099511627776), (0, 1), (0, 4095), (0, 1023), (0, 1), (0, 4294967295)]
def mayR (xs : List Int) : Bool := withinB bndR xs && (decide (xs.getD 2 0 = 0) || (decide (xs.getD 4 0 = 0) && decide (xs.getD 5 0 = 0) && decide (xs.getD 6 0 = 0)))
theorem cellR {w : World} {g o : Nat} {xs : List Int} (hr : w.rangeAt g o (ints xs)) (i : Nat) (hi : i < xs.length) : w.cell? ⟨g, o + i, none⟩ = some (.int .i64 (xs.getD i 0)) := by
  rw [ints_range hr (i := i) hi]; simp [List.getD_eq_getElem?_getD, hi]
set_option maxRecDepth 100000 in
set_option maxHeartbeats 2000000 in
theorem mayR_any {w : World} {gl ol cl gt : Nat} {v : Value} (xs : List Int) (hxl : xs.length = 7) (_hcl : 7 ≤ cl) (_hcm : cl ≤ maxLen) (hv : w.cell? ⟨gt, 0, none⟩ = some v) (hB : Bnd w v bndR) (hx : w.rangeAt gl ol (ints xs)) :
    Calls Tryz.prog 252 #[.slice (some ⟨gl, ol, none⟩) 7 cl, .pointer (some ⟨gt, 0, none⟩)] w fun e w' => e = .returned (.bool (mayR xs)) ∧ Below w.heap.size w w' := by
  obtain ⟨g, h, cc, rfl, hc, hr⟩ := hB
  have HW := Lib.hid (within_any (cl := cl) bndR xs hc hr hx hxl (by show 7 ≤ 7; decide) (by decide))
  have HM : Hid (mayR xs = (withinB bndR xs && (decide (xs.getD 2 0 = 0) || (decide (xs.getD 4 0 = 0) && decide (xs.getD 5 0 = 0) && decide (xs.getD 6 0 = 0))))) := rfl
  have HC := Lib.hid (And.intro (cellR hx 2 (by omega)) (And.intro (cellR hx 4 (by omega)) (And.intro (cellR hx 5 (by omega)) (cellR hx 6 (by omega)))))
  generalize xs.getD 2 0 = x2 at HM HC
  generalize xs.getD 4 0 = x4 at HM HC
  generalize xs.getD 5 0 = x5 at HM HC
  generalize xs.getD 6 0 = x6 at HM HC
  clear hx hr hc hxl
  go_enter Tryz.func252, Tryz.ntmps252
  go_wp2_with fail
  refine HW.out.mono ?_
  rintro e w' ⟨rfl, hb⟩
  have hu := Upd.of_below (S := fun _ => False) hb
  have c2 := hu.cellv HC.out.1 (fun h => h)
  have c4 := hu.cellv HC.out.2.1 (fun h => h)
  have c5 := hu.cellv HC.out.2.2.1 (fun h => h)
  have c6 := hu.cellv HC.out.2.2.2 (fun h => h)
  have HB := Lib.hid hb
  clear hu hb
  generalize withinB bndR xs = wb at HM ⊢
  cases wb with
  | false =>
    clear c2 c4 c5 c6
    go_wp2
    go_ret
    exact ⟨by rw [HM.out]; rfl, HB.out⟩
  | true =>
    by_cases h2 : x2 = 0
    · subst h2
      clear c4 c5 c6
      go_wp2
      go_ret
      exact ⟨by rw [HM.out]; rfl, HB.out⟩
    · have q2 : (x2 == 0) = false := by simpa using h2
      have H2 := Lib.hid h2
      clear h2
      by_cases h4 : x4 = 0
      · subst h4
        by_cases h5 : x5 = 0
        · subst h5
          go_wp2
          go_ret
          refine ⟨?_, HB.out⟩
          rw [HM.out]
          simp [H2.out]
          by_cases h6 : x6 = 0 <;> simp [h6]
        · have q5 : (x5 == 0) = false := by simpa using h5
          have H5 := Lib.hid h5
          clear h5 c6
          go_wp2
          go_ret
          refine ⟨?_, HB.out⟩
          rw [HM.out]
          simp [H2.out, H5.out]
      · have q4 : (x4 == 0) = false := by simpa using h4
        have H4 := Lib.hid h4
        clear h4 c5 c6
        go_wp2
        go_ret
        refine ⟨?_, HB.out⟩
        rw [HM.out]
        simp [H2.out, H4.out]
theorem within_atR {B : List (Int × Int)} {xs : List Int} (h : withinB B xs = true) {i : Nat} (h1 : i < B.length) (h2 : i < xs.length) : B[i].1 ≤ xs[i] ∧ xs[i] ≤ B[i].2 := by
  have h := List.all_eq_true.1 h (B[i], xs[i]) (List.mem_iff_getElem.2 ⟨i, by simp; omega, by simp⟩)
  simpa [inB] using h
end Go.Proofs.YtfhfbpmlnjdfoaaGreatDoor
