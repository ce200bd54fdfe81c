/- The index: Drop, Clean, At; Get, Put, Drop, Clean of whatever block. -/
import Derived.Test.YtmgcekpfnkcmjaaIndex2b
namespace Go.Proofs.Ytmgcekpfnkcmjaa
open Go Go.RowKit

theorem getD_at {ps : List (Int × Bool)} {n : Nat} (h : n < ps.length) : ps.getD n (-1, false) = ps[n] := by simp [List.getD, h]

/-- Get, of whatever block. -/
theorem get_any {w : World} {b mb N : Nat} {v : Value} {ps : List (Int × Bool)} {slots : Nat} (h : IndexAt w b v mb N ps slots) (k : Int) :
    Calls Try.prog 19 #[.pointer (some ⟨b, 0, none⟩), .int .i64 k] w fun e w' => e = .returned (.tuple #[placeV (getV ps k).1 (getV ps k).2, .int .i64 (getC ps k)]) ∧ Below w.heap.size w w' := by
  by_cases ho : k < 0 ∨ (ps.length : Int) ≤ k
  · simp only [getV, getC, if_pos ho]; exact get_out h k ho
  · obtain ⟨n, rfl⟩ : ∃ n : Nat, k = n := ⟨k.toNat, by omega⟩
    have hn : n < ps.length := by omega
    simp only [getV, getC, if_neg ho, Int.toNat_natCast, getD_at hn]
    rcases h.good.each n hn with e | e
    · simp only [e, if_true]; exact get_none h n hn e
    · have h1 : ps[n].1 ≠ -1 := by omega
      have h2 : ps[n] ≠ (-1, false) := fun e => h1 (by rw [e])
      simp only [if_neg h2]; exact get_some h n hn h1

/-- Put, of whatever block. -/
theorem put_any {w : World} {b mb N : Nat} {v : Value} {ps : List (Int × Bool)} {slots : Nat} (h : IndexAt w b v mb N ps slots) (k s : Int) (d : Bool) (hN : N < maxLen) :
    Calls Try.prog 26 #[.pointer (some ⟨b, 0, none⟩), .int .i64 k, placeV s d] w fun e w' => e = .returned (.tuple #[placeV (putV ps slots k s).1 (putV ps slots k s).2, .int .i64 (putC ps slots k s)]) ∧
      IndexAt w' b v mb (N + 1) (putL ps slots k s d) slots ∧ Upd (ixS v mb) w w' := by
  by_cases ho : k < 0 ∨ (ps.length : Int) ≤ k ∨ s < 0 ∨ (slots : Int) ≤ s
  · have e : putC ps slots k s = 10 := by unfold putC; rw [if_pos ho]
    simp only [putV, putL, e, if_neg (show ¬ (10 : Int) = 0 by decide)]
    exact (put_out h k s d ho).mono fun e w' ⟨he, hb⟩ => ⟨he, (h.below hb).mono (Nat.le_succ _), Upd.of_below hb⟩
  · obtain ⟨n, rfl⟩ : ∃ n : Nat, k = n := ⟨k.toNat, by omega⟩
    have hn : n < ps.length := by omega
    by_cases hm : mayPut ps n s
    · have e : putC ps slots n s = 0 := by
        unfold putC
        rw [if_neg ho, if_pos (by simpa [mayPut] using hm)]
      simp only [putV, putL, e, if_true, Int.toNat_natCast, getD_at hn]
      exact put_ok h n s d hn (by omega) (by omega) hm hN
    · have e : putC ps slots n s = 15 := by
        unfold putC
        rw [if_neg ho, if_neg (by simpa [mayPut] using hm)]
      simp only [putV, putL, e, if_neg (show ¬ (15 : Int) = 0 by decide)]
      exact (put_there h n s d hn (by omega) (by omega) hm).mono fun e w' ⟨he, hb⟩ => ⟨he, (h.below hb).mono (Nat.le_succ _), Upd.of_below hb⟩

theorem set_same {α : Type} {l : List α} {i : Nat} {x : α} (h : l[i]? = some x) : l.set i x = l := by
  obtain ⟨hi, rfl⟩ := List.getElem?_eq_some_iff.1 h
  exact List.set_getElem_self hi

/-- What Drop leaves. -/
def dropL (ps : List (Int × Bool)) (k : Int) : List (Int × Bool) := if getC ps k = 0 then ps.set k.toNat (-1, false) else ps
/-- What Clean leaves. -/
def cleanL (ps : List (Int × Bool)) (k : Int) : List (Int × Bool) := if getC ps k = 0 then ps.set k.toNat ((getV ps k).1, false) else ps

theorem getC_zero {ps : List (Int × Bool)} {slots : Nat} (h : Good ps slots) {k : Int} (hc : getC ps k = 0) : ∃ (n : Nat) (hn : n < ps.length), k = n ∧ 0 ≤ ps[n].1 ∧ ps[n].1 < slots ∧ getV ps k = ps[n] := by
  unfold getC at hc
  by_cases ho : k < 0 ∨ (ps.length : Int) ≤ k
  · rw [if_pos ho] at hc; cases hc
  · rw [if_neg ho] at hc
    obtain ⟨n, rfl⟩ : ∃ n : Nat, k = n := ⟨k.toNat, by omega⟩
    have hn : n < ps.length := by omega
    simp only [Int.toNat_natCast, getD_at hn] at hc
    by_cases e : ps[n] = (-1, false)
    · simp [e] at hc
    · refine ⟨n, hn, rfl, ?_, ?_, ?_⟩
      · rcases h.each n hn with e' | e'; exact absurd e' e; exact e'.1
      · rcases h.each n hn with e' | e'; exact absurd e' e; exact e'.2
      · simp only [getV, if_neg ho, Int.toNat_natCast, getD_at hn, if_neg e]

theorem getV_bad {ps : List (Int × Bool)} {k : Int} (hc : getC ps k ≠ 0) : getV ps k = (0, false) := by
  unfold getC at hc
  unfold getV
  split
  · rfl
  · rename_i h
    rw [if_neg h] at hc
    split
    · rfl
    · rename_i h2
      rw [if_neg h2] at hc
      exact absurd rfl hc

set_option maxRecDepth 100000 in
set_option maxHeartbeats 1000000 in
theorem clean_any {w : World} {b mb N : Nat} {v : Value} {ps : List (Int × Bool)} {slots : Nat} (h : IndexAt w b v mb N ps slots) (k : Int) :
    Calls Try.prog 18 #[.pointer (some ⟨b, 0, none⟩), .int .i64 k] w fun e w' => e = .returned (.int .i64 (getC ps k)) ∧
      IndexAt w' b v mb N (cleanL ps k) slots ∧ Upd (ixS v mb) w w' := by
  have H := Lib.hid h
  by_cases hc : getC ps k = 0
  · obtain ⟨n, hn, rfl, h0, h1, hv⟩ := getC_zero h.good hc
    have hL : Hid (cleanL ps n = ps.set n (ps[n].1, false)) := by show _ = _; simp [cleanL, hc, hv]
    have hV := Lib.hid hv
    have hle := h.le
    clear hv h
    have hC := hc
    rw [hc]
    clear hc
    go_enter Try.func18, Try.ntmps18
    go_wp2_with fail
    refine (get_any H.out n).mono ?_
    rintro e w1 ⟨rfl, hb1⟩
    have hz1 := hb1.size
    have hu1 : Upd (fun _ => False) w (w1.alloc (.cells #[.int .i64 ps[n].1, .bool ps[n].2] 36)) := (Upd.of_below hb1).alloc _
    have hI := H.out.keep hu1 (fun h => h) (fun _ _ h => h)
    have t0 := cell_of_block hI.str 0
    simp at t0
    obtain ⟨g, off, cap, cur, rfl, hg, _, hcc⟩ := hI.sl.at (by omega)
    have e1 := (cell_of_block hg (off + n * 2 + 1)).trans (hcc (n * 2 + 1) _ (plC_at hn).2)
    have f1 := frozen_of_block hg (off + n * 2 + 1)
    have hc0 : (getC ps n == 0) = true := by simpa using hC
    have HI := Lib.hid hI
    have HU := Lib.hid hu1
    rw [hC, hV.out]
    clear hg hcc hI hu1 hc0
    go_wp2
    go_ret
    have hS := HI.out.sl.setAt (n * 2 + 1) (by omega) (.bool false)
    rw [← Nat.add_assoc off] at hS
    have hus : Upd (fun j => j = g) (w1.alloc (.cells #[.int .i64 ps[n].1, .bool ps[n].2] 36)) ((w1.alloc (.cells #[.int .i64 ps[n].1, .bool ps[n].2] 36)).setCell ⟨g, off + n * 2 + 1, none⟩ (.bool false)) := upd_setCell _ _ _ _
    have hgb : g ≠ b := fun e => HI.out.ne (by rw [e]; rfl)
    have hgm : g ≠ mb := fun e => HI.out.nv (by rw [e]; rfl)
    rw [hL.out]
    refine ⟨rfl, { str := (hus.block _ HI.out.blt (fun e => hgb e.symm)).trans HI.out.str, sl := ?_, map := ?_, good := HI.out.good.clean hn h0, ne := HI.out.ne, nm := HI.out.nm, nv := HI.out.nv, le := by simpa using hle, sl1 := HI.out.sl1 }, ?_⟩
    · rw [← plC_set, List.length_set]
      have e2 : (plC ps).set (n * 2) (.int .i64 ps[n].1) = plC ps := set_same (plC_at hn).1
      rw [e2]
      simpa using hS
    · rw [HI.out.good.atOf_clean hn h0]
      exact HI.out.map.keep hus (fun e => hgm e.symm)
    · exact (HU.out.mono (fun _ _ h => h.elim)).trans (hus.mono (fun j _ e => .inl (by rw [e]; rfl)))
  · have hL : cleanL ps k = ps := by simp [cleanL, hc]
    rw [hL]
    obtain ⟨c, hcc⟩ : ∃ c, c = getC ps k := ⟨_, rfl⟩
    obtain ⟨z, hz⟩ : ∃ z, z = getV ps k := ⟨_, rfl⟩
    rw [← hcc] at hc
    rw [← hcc]
    have hc' : (c == 0) = false := by simpa using hc
    clear hL h
    have HG := Lib.hid (get_any H.out k)
    rw [← hcc, ← hz] at HG
    clear hcc hz
    go_enter Try.func18, Try.ntmps18
    go_wp2_with fail
    refine HG.out.mono ?_
    rintro e w1 ⟨rfl, hb1⟩
    go_wp2
    go_ret
    exact ⟨rfl, (H.out.below hb1).keep ((Upd.refl (fun _ => False) _).alloc _) (fun h => h) (fun _ _ h => h), (Upd.of_below hb1).alloc _⟩
end Go.Proofs.Ytmgcekpfnkcmjaa
