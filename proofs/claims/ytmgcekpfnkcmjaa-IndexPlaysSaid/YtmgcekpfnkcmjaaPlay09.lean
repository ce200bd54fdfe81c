/- What the laws of the index share: the ops as they came, the first loop's step. -/
import Derived.Test.YtmgcekpfnkcmjaaAwake09
import Derived.ProofKit
import Derived.OpenShut
import Derived.Deep.DeepHandedRow
import Derived.Deep.Slices
namespace Go.Proofs.Ytmgcekpfnkcmjaa
open Go Go.RowKit Go.ChangeShapes Go.WideShapes Go.ChangeAt

theorem cells_op9 : Try.prog.cellsOf 32 = 4 := by kernel_rfl
theorem cells_int9 : Try.prog.cellsOf 3 = 1 := by kernel_rfl
theorem cells_bool9 : Try.prog.cellsOf 4 = 1 := by kernel_rfl

set_option maxRecDepth 100000 in
theorem opEl9 {H : Type} {enc : TypeId × Value → H} {W : World} (n : Nat) (cs : List Value) (x : DataW H × List MemPlace) (h : DataW.trod enc Try.prog W 0 (fun _ => true) true n 32 cs = some x) :
    ∃ o : Op9, cs = [.int .i64 o.ask, .int .i64 o.blk, .int .i64 o.slot, .bool o.dirty] ∧ True := by
  obtain ⟨xs, m, _, rfl, hl, hlen, hf⟩ := DataW.trod_struct Try.underlying32 h
  rw [cells_op9] at hl
  match cs, hl, xs, hlen with
  | [c0, c1, c2, c3], _, [y0, y1, y2, y3], _ =>
    have h0 := hf 0 _ rfl
    have h1 := hf 1 _ rfl
    have h2 := hf 2 _ rfl
    have h3 := hf 3 _ rfl
    obtain ⟨a, ha, _, _⟩ := DataW.trod_int Try.underlying3 h0
    obtain ⟨b, hb, _, _⟩ := DataW.trod_int Try.underlying3 h1
    obtain ⟨c, hc, _, _⟩ := DataW.trod_int Try.underlying3 h2
    obtain ⟨d, hd, _⟩ := DataW.trod_bool Try.underlying4 h3
    cases ha; cases hb; cases hc; cases hd
    exact ⟨⟨a, b, c, d⟩, rfl, trivial⟩

theorem putL_good {ps : List (Int × Bool)} {slots : Nat} (h : Good ps slots) (k s : Int) (d : Bool) : Good (putL ps slots k s d) slots := by
  unfold putL
  split
  · rename_i hc
    unfold putC at hc
    by_cases ho : k < 0 ∨ (ps.length : Int) ≤ k ∨ s < 0 ∨ (slots : Int) ≤ s
    · rw [if_pos ho] at hc; cases hc
    · rw [if_neg ho] at hc
      by_cases hm : atOf ps s = none ∨ atOf ps s = some k.toNat
      · exact h.put (by omega) d (by omega) (by omega) hm
      · rw [if_neg hm] at hc; cases hc
  · exact h

theorem Below.undrew {w w' : World} (h : Below w.drew.heap.size w.drew w') : Below w.heap.size w w' := ⟨h.os, h.tape, h.output, h.size, h.block⟩

/-- What is asked of the ops: their cells, at k. -/
theorem op_cells {w : World} {v : Value} {l : List Op9} (h : Rd w 4 v l.length (ops9 l)) {k : Nat} (hk : k < l.length) : ∃ bl off c, v = .slice (some ⟨bl, off, none⟩) l.length c ∧ bl < w.heap.size ∧
    w.cell? ⟨bl, off + k * 4, none⟩ = some (.int .i64 l[k].ask) ∧ w.cell? ⟨bl, off + k * 4 + 1, none⟩ = some (.int .i64 l[k].blk) ∧ w.cell? ⟨bl, off + k * 4 + 2, none⟩ = some (.int .i64 l[k].slot) ∧ w.cell? ⟨bl, off + k * 4 + 3, none⟩ = some (.bool l[k].dirty) := by
  obtain ⟨bl, off, c, rfl, hb, hc⟩ := h.at (by omega)
  obtain ⟨h0, h1, h2, h3⟩ := ops9_at hk
  exact ⟨bl, off, c, rfl, hb, hc _ _ h0, hc (k * 4 + 1) _ h1, hc (k * 4 + 2) _ h2, hc (k * 4 + 3) _ h3⟩

theorem clean_get {ps : List (Int × Bool)} {slots : Nat} (h : Good ps slots) (k blk : Int) :
    getC (cleanL ps blk) k = getC ps k ∧ getV (cleanL ps blk) k = if k = blk then ((getV ps k).1, false) else getV ps k := by
  by_cases hc : getC ps blk = 0
  · obtain ⟨n, hn, rfl, h0, h1, hv⟩ := getC_zero h hc
    have hL : cleanL ps n = ps.set n (ps[n].1, false) := by simp [cleanL, hc, hv]
    have hne : ps[n] ≠ (-1, false) := fun e => by rw [e] at h0; simp at h0
    have hne2 : ((ps[n].1, false) : Int × Bool) ≠ (-1, false) := fun e => by have := congrArg Prod.fst e; simp at this; omega
    rw [hL]
    by_cases hk : k = n
    · subst hk
      rw [if_pos rfl, hv]
      have ho : ¬ ((n : Int) < 0 ∨ (ps.length : Int) ≤ n) := by omega
      have e : (ps.set n (ps[n].1, false)).getD n (-1, false) = (ps[n].1, false) := by rw [getD_at (by simpa using hn)]; simp
      unfold getC getV
      simp only [List.length_set, if_neg ho, Int.toNat_natCast, e, if_neg hne2, getD_at hn, if_neg hne]
      exact ⟨trivial, trivial⟩
    · rw [if_neg hk]
      unfold getC getV
      simp only [List.length_set]
      by_cases ho : k < 0 ∨ (ps.length : Int) ≤ k
      · simp only [if_pos ho]; exact ⟨trivial, trivial⟩
      · obtain ⟨m, rfl⟩ : ∃ m : Nat, k = m := ⟨k.toNat, by omega⟩
        have hm : m < ps.length := by omega
        have e : (ps.set n (ps[n].1, false)).getD m (-1, false) = ps.getD m (-1, false) := by
          rw [getD_at (by simpa using hm), getD_at hm, List.getElem_set_ne (fun e => hk (by rw [e]))]
        simp only [if_neg ho, Int.toNat_natCast, e]; exact ⟨trivial, trivial⟩
  · have hL : cleanL ps blk = ps := by simp [cleanL, hc]
    rw [hL]
    refine ⟨rfl, ?_⟩
    split
    · rename_i e; subst e; rw [getV_bad hc]
    · rfl
end Go.Proofs.Ytmgcekpfnkcmjaa
