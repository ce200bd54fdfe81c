/- The document's index. -/
import Derived.Test.YtmgcekpfnkcmjaaIndex3
namespace Go.Proofs.Ytmgcekpfnkcmjaa
open Go Go.RowKit

abbrev TR9 : TypeId := 101

def bools (l : List Bool) : List Value := l.map .bool
@[simp] theorem length_bools (l : List Bool) : (bools l).length = l.length := by simp [bools]
theorem get_bools {l : List Bool} {j : Nat} (h : j < l.length) : (bools l)[j]? = some (.bool l[j]) := by simp [bools, h]
def slC (ps : List (Int × Bool)) : List Value := ints (ps.map (·.1))
def diC (ps : List (Int × Bool)) : List Value := bools (ps.map (·.2))
theorem slC_at {ps : List (Int × Bool)} {k : Nat} (h : k < ps.length) : (slC ps)[k]? = some (.int .i64 ps[k].1) := by simp [slC, ints, h]
theorem diC_at {ps : List (Int × Bool)} {k : Nat} (h : k < ps.length) : (diC ps)[k]? = some (.bool ps[k].2) := by simp [diC, bools, h]
theorem slC_set (ps : List (Int × Bool)) (k : Nat) (s : Int) (d : Bool) : (slC ps).set k (.int .i64 s) = slC (ps.set k (s, d)) := by simp [slC, ints, List.map_set]
theorem diC_set (ps : List (Int × Bool)) (k : Nat) (s : Int) (d : Bool) : (diC ps).set k (.bool d) = diC (ps.set k (s, d)) := by simp [diC, bools, List.map_set]

/-- The document's index in memory. -/
structure RefAt (w : World) (b : Nat) (vs vd : Value) (ps : List (Int × Bool)) (slots : Nat) : Prop where
  str : w.heap[b]? = some (.cells #[vs, vd, .int .i64 slots] TR9 (0, 0))
  ss : Sl w 3 1 vs ps.length (slC ps)
  ds : Sl w 4 1 vd ps.length (diC ps)
  ns : vs.ownBlock ≠ some b
  nd : vd.ownBlock ≠ some b
  dd : Dis vs vd
  le : ps.length ≤ 4096
  sl1 : slots ≤ 1024

def rS (vs vd : Value) : Nat → Prop := fun j => vs.ownBlock = some j ∨ vd.ownBlock = some j

section
variable {w w' : World} {b : Nat} {vs vd : Value} {ps : List (Int × Bool)} {slots : Nat}

theorem RefAt.keep (h : RefAt w b vs vd ps slots) {S : Nat → Prop} (hu : Upd S w w') (hb : ¬ S b) (hs : ∀ j, rS vs vd j → ¬ S j) : RefAt w' b vs vd ps slots :=
  { str := (hu.block _ (lt_of_block h.str) hb).trans h.str, ss := h.ss.keep hu (fun g hg => hs g (.inl hg)), ds := h.ds.keep hu (fun g hg => hs g (.inr hg)), ns := h.ns, nd := h.nd, dd := h.dd, le := h.le, sl1 := h.sl1 }
theorem RefAt.below (h : RefAt w b vs vd ps slots) (hb : Below w.heap.size w w') : RefAt w' b vs vd ps slots := h.keep (Upd.of_below (S := fun _ => False) hb) (fun h => h) (fun _ _ h => h)
theorem RefAt.blt (h : RefAt w b vs vd ps slots) : b < w.heap.size := lt_of_block h.str
theorem RefAt.slt (h : RefAt w b vs vd ps slots) : ∀ j, rS vs vd j → j < w.heap.size := by
  rintro j (hj | hj)
  · exact h.ss.lt hj
  · exact h.ds.lt hj

theorem right_any (h : RefAt w b vs vd ps slots) (k : Int) :
    Calls Try.prog 58 #[.pointer (some ⟨b, 0, none⟩), .int .i64 k] w fun e w' => e = .returned (.bool (decide (0 ≤ k ∧ k < ps.length))) ∧ w' = w := by
  have g0 := cell_of_block h.str 0
  simp at g0
  have hle := h.le
  obtain ⟨ao, c, rfl⟩ := h.ss.rd.nil_iff
  clear h
  by_cases h0 : 0 ≤ k
  · have e : decide (0 ≤ k ∧ k < ps.length) = decide (k < (ps.length : Int)) := by simp [h0]
    rw [e]
    clear e
    go_enter Try.func58, Try.ntmps58
    go_wp2
    go_ret
    exact ⟨rfl, rfl⟩
  · have e : decide (0 ≤ k ∧ k < ps.length) = false := by simp [h0]
    rw [e]
    clear e
    go_enter Try.func58, Try.ntmps58
    go_wp2
    go_ret
    exact ⟨rfl, rfl⟩

/-- The first block at a slot; -1. -/
def atI (ps : List (Int × Bool)) (s : Int) : Int := match atOf ps s with | some k => (k : Int) | none => -1

theorem atOf_first {ps : List (Int × Bool)} {s : Int} {k : Nat} (hk : k < ps.length) (hs : 0 ≤ s) (hb : ∀ j (h : j < ps.length), j < k → ps[j].1 ≠ s) (he : ps[k].1 = s) : atOf ps s = some k := by
  unfold atOf
  rw [if_neg (by omega), List.findIdx?_eq_some_iff_getElem]
  exact ⟨hk, by simpa using he, fun j hj => by simpa using hb j (by omega) hj⟩
theorem atOf_no {ps : List (Int × Bool)} {s : Int} (hb : 0 ≤ s → ∀ j (h : j < ps.length), ps[j].1 ≠ s) : atOf ps s = none := by
  cases h : atOf ps s with
  | none => rfl
  | some k =>
    obtain ⟨h0, hk, he⟩ := atOf_some h
    exact absurd he (hb h0 k hk)

set_option maxHeartbeats 1000000 in
theorem rat_any (h : RefAt w b vs vd ps slots) (s : Int) :
    Calls Try.prog 59 #[.pointer (some ⟨b, 0, none⟩), .int .i64 s] w fun e w' => e = .returned (.int .i64 (atI ps s)) ∧ w' = w := by
  have g0 := cell_of_block h.str 0
  simp at g0
  have hle := h.le
  obtain ⟨ao, c, rfl⟩ := h.ss.rd.nil_iff
  have HS := Lib.hid h.ss
  clear h
  go_enter Try.func59, Try.ntmps59
  go_wp2
  go_loopg [5] ps.length (fun g i wr => ∃ k : Nat, k + g = ps.length ∧ i = .int .i64 k ∧ (0 ≤ s → ∀ j (h : j < ps.length), j < k → ps[j].1 ≠ s) ∧ wr = w)
  case atStart => exact ⟨0, by omega, rfl, fun _ j h hj => by omega, rfl⟩
  case round =>
    obtain ⟨k, hk, rfl, hno, rfl⟩ := hrel
    by_cases hlt : k < ps.length
    · obtain ⟨g, off, cap, cur, hv, hg, _, hc⟩ := HS.out.at (by omega)
      cases hv
      have hck := (cell_of_block hg (off + k)).trans (hc k _ (slC_at hlt))
      have HN := Lib.hid hno
      clear hg hc hno
      by_cases he : ps[k].1 = s
      · have heb : (ps[k].1 == s) = true := by simpa using he
        by_cases hs : 0 ≤ s
        · have ha : Hid (atI ps s = k) := by show _ = _; unfold atI; rw [atOf_first hlt hs (HN.out hs) he]
          have hs' : ¬ s < 0 := by omega
          clear he
          go_wp2
          go_ret
          exact ⟨by rw [ha.out]; rfl, rfl⟩
        · clear he
          go_wp2
          go_roundg (gk - 1)
          case measure => omega
          case rel => exact ⟨k + 1, by omega, by go_num, fun h => by omega, rfl⟩
      · have heb : (ps[k].1 == s) = false := by simpa using he
        have hne : Hid (ps[k].1 ≠ s) := he
        clear he
        go_wp2
        go_roundg (gk - 1)
        case measure => omega
        case rel => exact ⟨k + 1, by omega, by go_num, fun h0 j hj hjk => by
          by_cases e : j = k
          · subst e; exact hne.out
          · exact HN.out h0 j hj (by omega), rfl⟩
    · obtain rfl : k = ps.length := by omega
      have ha : Hid (atI ps s = -1) := by show _ = _; unfold atI; rw [atOf_no (fun h0 j hj => hno h0 j hj hj)]
      clear hno
      go_wp2
      go_ret
      exact ⟨by rw [ha.out]; rfl, rfl⟩

/-- A place of the document's index is turned. -/
theorem RefAt.put {gs os cs gd od cd : Nat} (h : RefAt w b (.slice (some ⟨gs, os, none⟩) ps.length cs) (.slice (some ⟨gd, od, none⟩) ps.length cd) ps slots) (k : Nat) (hk : k < ps.length) (s : Int) (d : Bool) :
    RefAt ((w.setCell ⟨gs, os + k, none⟩ (.int .i64 s)).setCell ⟨gd, od + k, none⟩ (.bool d)) b (.slice (some ⟨gs, os, none⟩) ps.length cs) (.slice (some ⟨gd, od, none⟩) ps.length cd) (ps.set k (s, d)) slots ∧
      Upd (rS (.slice (some ⟨gs, os, none⟩) ps.length cs) (.slice (some ⟨gd, od, none⟩) ps.length cd)) w ((w.setCell ⟨gs, os + k, none⟩ (.int .i64 s)).setCell ⟨gd, od + k, none⟩ (.bool d)) := by
  have h1 : gs ≠ b := fun e => h.ns (by rw [e]; rfl)
  have h2 : gd ≠ b := fun e => h.nd (by rw [e]; rfl)
  have h3 : gs ≠ gd := fun e => h.dd gs rfl (by rw [e]; rfl)
  have u1 := upd_setCell w gs (os + k) (.int .i64 s)
  have u2 := upd_setCell (w.setCell ⟨gs, os + k, none⟩ (.int .i64 s)) gd (od + k) (.bool d)
  have hs := (h.ss.setAt k (by omega) (.int .i64 s)).keep u2 (fun g hg e => by simp [Value.ownBlock] at hg; omega)
  have hd := (h.ds.keep u1 (fun g hg e => by simp [Value.ownBlock] at hg; omega)).setAt k (by omega) (.bool d)
  rw [slC_set ps k s d] at hs
  rw [diC_set ps k s d] at hd
  refine ⟨{ str := (u2.block _ (u1.lt h.blt) (fun e => h2 e.symm)).trans ((u1.block _ h.blt (fun e => h1 e.symm)).trans h.str), ss := by simpa using hs, ds := by simpa using hd, ns := h.ns, nd := h.nd, dd := h.dd, le := by simpa using h.le, sl1 := h.sl1 }, ?_⟩
  exact (u1.mono (fun j _ e => .inl (by rw [e]; rfl))).trans (u2.mono (fun j _ e => .inr (by rw [e]; rfl)))

theorem RefAt.at (h : RefAt w b vs vd ps slots) {k : Nat} (hk : k < ps.length) : ∃ gs os cs gd od cd, vs = .slice (some ⟨gs, os, none⟩) ps.length cs ∧ vd = .slice (some ⟨gd, od, none⟩) ps.length cd ∧
    (w.cell? ⟨gs, os + k, none⟩ = some (.int .i64 ps[k].1) ∧ w.frozen? ⟨gs, os + k, none⟩ = false) ∧ (w.cell? ⟨gd, od + k, none⟩ = some (.bool ps[k].2) ∧ w.frozen? ⟨gd, od + k, none⟩ = false) ∧ gs < w.heap.size ∧ gd < w.heap.size := by
  obtain ⟨gs, os, cs, cur, rfl, hg, _, hc⟩ := h.ss.at (by omega)
  obtain ⟨gd, od, cd, cur', rfl, hg', _, hc'⟩ := h.ds.at (by omega)
  exact ⟨gs, os, cs, gd, od, cd, rfl, rfl, ⟨(cell_of_block hg _).trans (hc k _ (slC_at hk)), frozen_of_block hg _⟩, ⟨(cell_of_block hg' _).trans (hc' k _ (diC_at hk)), frozen_of_block hg' _⟩, lt_of_block hg, lt_of_block hg'⟩
end
end Go.Proofs.Ytmgcekpfnkcmjaa
