/- A log: Put. What sectors tell of a checkpoint: plain. -/
import Derived.Test.YtfhfbpmlnjdfoaaGreatDoorA10
import Derived.Test.YtfhfbpmlnjdfoaaGreatDoorA08
import Derived.Test.YtfhfbpmlnjdfoaaGreatDoorA09
namespace Go.Proofs.YtfhfbpmlnjdfoaaGreatDoor
open Go Go.RowKit
theorem there_of_block {w : World} {p : Nat} {cs : Array Value} {t : TypeId} (h : w.heap[p]? = some (.cells cs t (0, 0))) {n : Nat} (hn : n ≤ cs.size) : w.there p 0 n := fun j hj => by
  rw [cell_of_block h, frozen_of_block h]
  exact ⟨by rw [Nat.zero_add, Array.getElem?_eq_getElem (by omega)]; rfl, rfl⟩
theorem block_setCells {w : World} {p : Nat} {x y : Bk} {t : TypeId} (h : w.heap[p]? = some (.cells (bkC x).toArray t (0, 0))) (hx : x.length = 64) (hy : y.length = 64) : (w.setCells p 0 (bkC y)).heap[p]? = some (.cells (bkC y).toArray t (0, 0)) := by
  obtain ⟨cur', h2, h3, h4⟩ := heap_setCells_same (bkC y) 0 w p _ t (0, 0) h
  rw [h2]
  have : cur' = (bkC y).toArray := by
    apply Array.ext_getElem?
    intro k
    have e : (bkC y).toArray[k]? = (bkC y)[k]? := by simp
    rw [h4 k, e, bkC_len, hy, bkC_size _ hx]
    by_cases hk : k < 64
    · rw [if_pos ⟨by omega, by omega, by omega⟩]; rfl
    · rw [if_neg (by omega), Array.getElem?_eq_none (by rw [bkC_size _ hx]; omega), List.getElem?_eq_none (by rw [bkC_len, hy]; omega)]
  rw [this]
def ReadMeet (T : Nat → Prop) (b : Nat) (F : List Bk) (O : List (Nat × Bk)) (P : List Int) (s : Nat) (w2 : World) (s8 s6 : Value) (wx : World) : Prop :=
  ∃ q z cd, s8 = .pointer (some ⟨q, 0, none⟩) ∧ s6 = .int .i64 cd ∧ wx.heap[q]? = some (.cells (bkC z).toArray 54 (0, 0)) ∧ w2.heap.size ≤ q ∧ z = (if fate P = 1 then zB else curB F O s) ∧ cd = (if fate P = 1 then 19 else 0) ∧ z.length = 64 ∧
    Dv (fun j => T j ∧ j ≠ q) wx b F O P.tail ∧ Upd T w2 wx
def entAt (ns : List Nat) (i : Nat) : Ent := ⟨ns.getD (4 + 4 * i) 0, ns.getD (4 + 4 * i + 1) 0, ns.getD (4 + 4 * i + 2) 0 == 1, ns.getD (4 + 4 * i + 3) 0⟩
theorem natsI_getD (ns : List Nat) (i : Nat) : (natsI ns).getD i 0 = (ns.getD i 0 : Nat) := by
  simp only [natsI, List.getD_eq_getElem?_getD, List.getElem?_map]
  cases ns[i]? <;> rfl
theorem rowI_getD (xs : List Int) (i j : Nat) (hj : j < 4) : (rowI xs i).getD j 0 = xs.getD (4 + 4 * i + j) 0 := by
  simp only [rowI, List.getD_eq_getElem?_getD, List.getElem?_take, if_pos hj, List.getElem?_drop]
theorem entX_nat (ns : List Nat) (i : Nat) : entX (natsI ns) i = entC (entAt ns i) := by
  unfold entX entC entAt
  rw [rowI_getD _ _ _ (by omega), rowI_getD _ _ _ (by omega), rowI_getD _ _ _ (by omega), rowI_getD _ _ _ (by omega), natsI_getD, natsI_getD, natsI_getD, natsI_getD]
  have : ((ns.getD (4 + 4 * i + 2) 0 : Nat) : Int) == 1 ↔ ns.getD (4 + 4 * i + 2) 0 == 1 := by simp; omega
  rw [Bool.eq_iff_iff.2 this]
  rfl
def pgSeq (b : Bk) : Nat := (numsP b).getD 0 0
def pgNo (b : Bk) : Nat := (numsP b).getD 1 0
def pgOf (b : Bk) : Nat := (numsP b).getD 2 0
def pgMany (b : Bk) : Nat := (numsP b).getD 3 0
def pgEnts (b : Bk) : List Ent := (List.range (pgMany b)).map (entAt (numsP b))
def goesP (seq of no : Nat) (b : Bk) : Bool :=
  if of ≤ no then b == zB else okP b && (pgSeq b == seq && (pgNo b == no && (pgOf b == of && (if no + 1 = of then !(pgMany b == 0 && decide (0 < no)) else pgMany b == 4))))
def readSeq (l : List Bk) : Nat := pgSeq (l.getD 0 zB)
def readOf (l : List Bk) : Nat := pgOf (l.getD 0 zB)
def readOk (l : List Bk) : Bool := okP (l.getD 0 zB) && (decide (readOf l ≤ l.length) && (List.range l.length).all fun i => goesP (readSeq l) (readOf l) i (l.getD i zB))
def entsTo (l : List Bk) (k : Nat) : List Ent := (List.range k).flatMap fun i => pgEnts (l.getD i zB)
def readEs (l : List Bk) : List Ent := entsTo l (readOf l)
theorem okP_may {b : Bk} (h : okP b = true) : mayP (natsI (numsP b)) = true := by
  unfold okP okGet at h
  simp only [Bool.and_eq_true] at h
  exact h.2.2.2
theorem okP_bounds {b : Bk} (h : okP b = true) : pgSeq b ≤ 1099511627776 ∧ pgNo b ≤ 255 ∧ 1 ≤ pgOf b ∧ pgOf b ≤ 256 ∧ pgMany b ≤ 4 := by
  have hm := okP_may h
  unfold mayP at hm
  rw [Bool.and_eq_true, Bool.and_eq_true] at hm
  have hl : (natsI (numsP b)).length = 20 := by simp [natsI, numsP, numsAt_len, szP]
  have hw := hm.1.1
  have w0 := within_at hw (i := 0) (by decide) (by omega)
  have w1 := within_at hw (i := 1) (by decide) (by omega)
  have w2 := within_at hw (i := 2) (by decide) (by omega)
  have w3 := within_at hw (i := 3) (by decide) (by omega)
  have e : ∀ i (hi : i < (natsI (numsP b)).length), (natsI (numsP b))[i] = ((numsP b).getD i 0 : Nat) := fun i hi => by
    rw [← natsI_getD, List.getD_eq_getElem?_getD, List.getElem?_eq_getElem hi]; rfl
  rw [e] at w0 w1 w2 w3
  simp only [bndP, List.getElem_cons_zero, List.getElem_cons_succ] at w0 w1 w2 w3
  unfold pgSeq pgNo pgOf pgMany
  omega
theorem pg_cells {w : World} {p : Nat} {b : Bk} {T : TypeId} (h : w.heap[p]? = some (.cells (dsP (natsI (numsP b))).toArray T (0, 0))) (hok : okP b = true) :
    w.cell? ⟨p, 0, none⟩ = some (.int .i64 (pgSeq b : Nat)) ∧ w.cell? ⟨p, 1, none⟩ = some (.int .i64 (pgNo b : Nat)) ∧ w.cell? ⟨p, 2, none⟩ = some (.int .i64 (pgOf b : Nat)) ∧ w.cell? ⟨p, 3, none⟩ = some (.int .i64 (pgMany b : Nat)) ∧ w.rangeAt p 4 ((pgEnts b).flatMap entC) := by
  refine ⟨?_, ?_, ?_, ?_, ?_⟩
  · rw [cell_of_block h 0]; show some (Value.int .i64 ((natsI (numsP b)).getD 0 0)) = _; rw [natsI_getD]; rfl
  · rw [cell_of_block h 1]; show some (Value.int .i64 ((natsI (numsP b)).getD 1 0)) = _; rw [natsI_getD]; rfl
  · rw [cell_of_block h 2]; show some (Value.int .i64 ((natsI (numsP b)).getD 2 0)) = _; rw [natsI_getD]; rfl
  · rw [cell_of_block h 3]; show some (Value.int .i64 ((natsI (numsP b)).getD 3 0)) = _; rw [natsI_getD]; rfl
  · obtain ⟨-, -, -, -, hm⟩ := okP_bounds hok
    intro j u hj
    have hlen := (List.getElem?_eq_some_iff.1 hj).1
    rw [cell_of_block h]
    have e : (dsP (natsI (numsP b))).toArray[4 + j]? = ((List.range 4).flatMap fun i => entC (entAt (numsP b) i))[j]? := by
      rw [List.getElem?_toArray]
      unfold dsP dsPk
      rw [List.getElem?_append_right (by simp)]
      simp only [List.length_cons, List.length_nil]
      rw [show 4 + j - (0 + 1 + 1 + 1 + 1) = j by omega]
      congr 1
      rw [List.flatMap_def, List.flatMap_def]
      congr 1
      apply List.map_congr_left
      intro i hi
      rw [if_pos (List.mem_range.1 hi), entX_nat]
    rw [e, ← hj]
    unfold pgEnts
    rw [List.flatMap_map]
    rw [show List.range 4 = List.range (pgMany b) ++ (List.range (4 - pgMany b)).map (pgMany b + ·) by rw [← List.range_add, Nat.add_sub_cancel' hm], List.flatMap_append, List.getElem?_append_left]
    have : ((List.range (pgMany b)).flatMap fun i => entC (entAt (numsP b) i)) = ((pgEnts b).flatMap entC) := by unfold pgEnts; rw [List.flatMap_map]
    rw [this]; exact hlen
theorem page_tells {seq : Nat} {E : List Ent} (hs : seq ≤ 1099511627776) (hE : ∀ x ∈ E, EntOk x) (hn : needN E.length ≤ 256) {k : Nat} (hk : k < needN E.length) :
    let b := sectP (pageXs seq (needN E.length) E k)
    okP b = true ∧ pgSeq b = seq ∧ pgNo b = k ∧ pgOf b = needN E.length ∧ pgMany b = (partE E k).length ∧ pgEnts b = partE E k := by
  intro b
  obtain ⟨h1, h2⟩ := page_back (pageXs_len seq (needN E.length) E k) (mayP_page hs hE hn hk)
  have h3 : numsP b = pgN seq k (needN E.length) (partE E k).length (padE (partE E k)) := by
    have : natsI (numsP b) = natsI (pgN seq k (needN E.length) (partE E k).length (padE (partE E k))) := h2
    unfold natsI at this
    exact (List.map_inj_right (f := fun (n : Nat) => (n : Int)) (fun x y h => Int.ofNat_inj.1 h)).1 this
  have hm : pgMany b = (partE E k).length := by unfold pgMany; rw [h3]; rfl
  refine ⟨h1, ?_, ?_, ?_, hm, ?_⟩
  · unfold pgSeq; rw [h3]; rfl
  · unfold pgNo; rw [h3]; rfl
  · unfold pgOf; rw [h3]; rfl
  · unfold pgEnts
    rw [hm, h3]
    have hp := part_le E k
    have hrow : ∀ i, i < (partE E k).length → entAt (pgN seq k (needN E.length) (partE E k).length (padE (partE E k))) i = (partE E k).getD i Ent.none := by
      intro i hi
      have hr := rowI_page seq k (needN E.length) (partE E k).length (padE (partE E k)) (i := i) (by rw [pad_len hp]; omega)
      have hg : (padE (partE E k)).getD i Ent.none = (partE E k).getD i Ent.none := by
        simp [padE, List.getD_eq_getElem?_getD, List.getElem?_append_left hi]
      rw [hg] at hr
      generalize (partE E k).getD i Ent.none = x at *
      generalize pgN seq k (needN E.length) (partE E k).length (padE (partE E k)) = ns at *
      have hq : ∀ j, j < 4 → ns.getD (4 + 4 * i + j) 0 = (entN x).getD j 0 := fun j hj => by
        have := congrArg (fun l => l.getD j 0) hr
        simp only [rowI_getD _ _ _ hj, natsI_getD] at this
        exact Int.ofNat_inj.1 this
      have q0 := hq 0 (by omega); have q1 := hq 1 (by omega); have q2 := hq 2 (by omega); have q3 := hq 3 (by omega)
      unfold entAt
      rw [Nat.add_zero] at q0
      rw [q0, q1, q2, q3]
      obtain ⟨b, s, d, m⟩ := x
      cases d <;> rfl
    apply List.ext_getElem
    · simp
    · intro i h1 h2
      rw [List.getElem_map, List.getElem_range, hrow i h2, List.getD_eq_getElem?_getD, List.getElem?_eq_getElem h2]
      rfl
theorem part_all (E : List Ent) : ∀ k, (List.range k).flatMap (partE E) = E.take (4 * k)
  | 0 => by simp
  | k + 1 => by
    rw [List.range_succ, List.flatMap_append, part_all E k]
    simp only [List.flatMap_cons, List.flatMap_nil, List.append_nil, partE]
    rw [show 4 * (k + 1) = 4 * k + 4 by omega, List.take_add]
theorem part_len (E : List Ent) (k : Nat) : (partE E k).length = min 4 (E.length - 4 * k) := by simp [partE]
theorem read_pages {seq : Nat} {E : List Ent} (hs : seq ≤ 1099511627776) (hE : ∀ x ∈ E, EntOk x) (hn : needN E.length ≤ 256) {l : List Bk} (hm : needN E.length ≤ l.length) (hl : ∀ i < l.length, l.getD i zB = (pagesB seq E).getD i zB) :
    readOk l = true ∧ readSeq l = seq ∧ readEs l = E := by
  have hnp : 1 ≤ needN E.length := by unfold needN; omega
  have hpg : ∀ i, i < needN E.length → l.getD i zB = sectP (pageXs seq (needN E.length) E i) := fun i hi => by
    rw [hl i (by omega), pagesB, pagesTo, List.getD_eq_getElem?_getD, List.getElem?_map, List.getElem?_range hi]
    rfl
  have h0 := page_tells hs hE hn (k := 0) hnp
  dsimp only at h0
  rw [← hpg 0 hnp] at h0
  obtain ⟨a1, a2, a3, a4, a5, a6⟩ := h0
  have hof : readOf l = needN E.length := a4
  refine ⟨?_, a2, ?_⟩
  · unfold readOk
    rw [a1, hof, decide_eq_true hm, Bool.true_and, Bool.true_and, List.all_eq_true]
    intro i hi
    have hi := List.mem_range.1 hi
    unfold goesP
    by_cases h : needN E.length ≤ i
    · rw [if_pos h, hl i hi, List.getD_eq_getElem?_getD, List.getElem?_eq_none (by rw [pagesB, pagesTo_len]; exact h)]
      simp
    · rw [if_neg h]
      obtain ⟨b1, b2, b3, b4, b5, b6⟩ := page_tells hs hE hn (k := i) (by omega)
      rw [← hpg i (by omega)] at b1 b2 b3 b4 b5 b6
      rw [b1, b2, b3, b4, b5, show readSeq l = seq from a2, part_len]
      unfold needN at h ⊢
      split
      · next he =>
        simp only [Bool.true_and, beq_self_eq_true, Bool.not_eq_true', Bool.and_eq_false_iff, beq_eq_false_iff_ne, decide_eq_false_iff_not]
        by_cases hz : i = 0
        · right; omega
        · left; omega
      · next he =>
        simp only [Bool.true_and, beq_self_eq_true, beq_iff_eq]
        omega
  · unfold readEs entsTo
    rw [hof]
    have : (List.range (needN E.length)).flatMap (fun i => pgEnts (l.getD i zB)) = (List.range (needN E.length)).flatMap (partE E) := by
      rw [List.flatMap_def, List.flatMap_def]
      congr 1
      apply List.map_congr_left
      intro i hi
      obtain ⟨-, -, -, -, -, b6⟩ := page_tells hs hE hn (k := i) (List.mem_range.1 hi)
      rw [← hpg i (List.mem_range.1 hi)] at b6
      exact b6
    rw [this, part_all, List.take_of_length_le (by unfold needN; omega)]
theorem okP_zero : okP zB = false := by kernel_rfl
end Go.Proofs.YtfhfbpmlnjdfoaaGreatDoor
