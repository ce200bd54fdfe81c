/- The document's ring: a list, its bound, whether it was closed. -/
import Derived.Test.YtolhlfahoooliaaAwake02
namespace Go.Proofs.Ytolhlfahoooliaa
open Go Go.Conc Go.RowKit

/-- A ring of the document's, at block b; its list's block lies from B on. -/
structure RefAtV (w : World) (b B : Nat) (v : Value) (l : List Int) (most : Nat) (closed : Bool) : Prop where
  str : w.heap[b]? = some (.cells #[v, .int .i64 most, .bool closed] 59 (0, 0))
  sl : Sl w 3 1 v l.length (ints l)
  fr : From B v
  lt : b < B
  le : l.length ≤ most
def RefAt (w : World) (b B : Nat) (l : List Int) (most : Nat) (closed : Bool) : Prop := ∃ v, RefAtV w b B v l most closed

def refS (b : Nat) (v : Value) : Nat → Prop := fun k => k = b ∨ v.ownBlock = some k
theorem RefAtV.ne {w : World} {b B : Nat} {v : Value} {l : List Int} {most : Nat} {closed : Bool} (h : RefAtV w b B v l most closed) : v.ownBlock ≠ some b := fun e => by have := h.fr b e; have := h.lt; omega

abbrev refPtr (b : Nat) : Value := .pointer (some ⟨b, 0, none⟩)

section
variable {w w' : World} {b B : Nat} {v : Value} {l : List Int} {most : Nat} {closed : Bool}

theorem RefAt.keep (h : RefAt w b B l most closed) {S : Nat → Prop} (hu : Upd S w w') (hb : ¬ S b) (hS : ∀ k, S k → k < B) : RefAt w' b B l most closed := by
  obtain ⟨v, h⟩ := h
  exact ⟨v, (hu.block b (lt_of_block h.str) hb).trans h.str, h.sl.keep_lt h.fr hu hS, h.fr, h.lt, h.le⟩
theorem RefAt.drewN (h : RefAt w b B l most closed) (k : Nat) : RefAt (w.drewN k) b B l most closed := h.keep ((Upd.refl (fun _ => False) w).drewN k) (fun h => h) (fun _ h => h.elim)

theorem ref_room (h : RefAt w b B l most closed) (hm : most ≤ 1024) :
    Calls Try.prog 26 #[refPtr b] w fun e w' => e = .returned (.int .i64 (roomOf closed (ints l) most)) ∧ ∃ k, w' = w.drewN k := by
  obtain ⟨v, h⟩ := h
  have hc0 := cell_of_block h.str 0
  have hc1 := cell_of_block h.str 1
  have hc2 := cell_of_block h.str 2
  simp at hc0 hc1 hc2
  have hle := h.le
  obtain ⟨ao, c, rfl⟩ := h.sl.rd.nil_iff
  clear h
  cases closed with
  | true =>
    go_enter Try.func26, Try.ntmps26
    go_wp2
    go_ret
    exact ⟨by simp [roomOf], 0, rfl⟩
  | false =>
    go_enter Try.func26, Try.ntmps26
    go_wp2
    go_quiet (fail)
    go_wp2
    go_ret
    exact ⟨by simp [roomOf], _, rfl⟩

theorem ref_take_none (h : RefAt w b B [] most closed) :
    Calls Try.prog 30 #[refPtr b] w fun e w' => e = .returned (.tuple #[.int .i64 0, .int .i64 14]) ∧ w' = w := by
  obtain ⟨v, h⟩ := h
  have hc0 := cell_of_block h.str 0
  simp at hc0
  obtain ⟨ao, c, rfl⟩ := h.sl.rd.nil_iff
  clear h
  go_enter Try.func30, Try.ntmps30
  go_wp2
  go_ret2
  exact ⟨rfl, rfl⟩

theorem RefAtV.set (h : RefAtV w b B v l most closed) {v' : Value} {l' : List Int} (hs : Sl w 3 1 v' l'.length (ints l')) (hf : From B v') (hle : l'.length ≤ most) :
    RefAtV (w.setCell ⟨b, 0, none⟩ v') b B v' l' most closed :=
  ⟨by have := heap_setCell_same h.str 0 v'; simpa using this, hs.keep_ne (upd_setCell _ _ _ _) (fun e => by have := hf b e; have := h.lt; omega), hf, h.lt, hle⟩

theorem ref_take_some {x : Int} (h : RefAtV w b B v (x :: l) most closed) (hm : most ≤ 1024) :
    Calls Try.prog 30 #[refPtr b] w fun e w' => e = .returned (.tuple #[.int .i64 x, .int .i64 0]) ∧ (∃ v', RefAtV w' b B v' l most closed) ∧ Upd (fun k => k = b) w w' := by
  have hc0 := cell_of_block h.str 0
  have hf0 := frozen_of_block h.str 0
  simp at hc0
  have hle := h.le
  simp at hle
  obtain ⟨g, off, cap, cur, hv, hg, hsz, hcs⟩ := h.sl.at (by simp)
  subst hv
  have hx := hcs 0 (.int .i64 x) (by simp)
  have hcell : w.cell? ⟨g, off, none⟩ = some (.int .i64 x) := by rw [cell_of_block hg]; simpa using hx
  have hsl := h.sl
  simp only [List.length_cons, ints_cons] at hsl
  have HT := Lib.hid hsl.tail
  have H := Lib.hid h
  have hcap := HT.out.2.2
  have hfr : From B (.slice (some ⟨g, off, none⟩) (l.length + 1) cap) := h.fr
  have HF := Lib.hid hfr
  clear h hcs hx hfr hsl hsz hg
  have hup : ∀ u, Upd (fun k => k = b) w (w.setCell ⟨b, 0, none⟩ u) := fun u => upd_setCell w b 0 u
  have HU := Lib.hid hup
  clear hup
  simp only [List.length_cons] at hc0
  by_cases h1 : cap = 1
  · subst h1
    go_enter Try.func30, Try.ntmps30
    go_wp2
    go_ret2
    exact ⟨rfl, ⟨_, H.out.set (HT.out.2.1 trivial) HF.out (by omega)⟩, HU.out _⟩
  · go_enter Try.func30, Try.ntmps30
    go_wp2
    go_ret2
    exact ⟨rfl, ⟨_, H.out.set HT.out.1 HF.out (by omega)⟩, HU.out _⟩

theorem ref_put_shut (h : RefAt w b B l most true) (x : Int) :
    Calls Try.prog 29 #[refPtr b, .int .i64 x] w fun e w' => e = .returned (.int .i64 16) ∧ w' = w := by
  obtain ⟨v, h⟩ := h
  have hc2 := cell_of_block h.str 2
  simp at hc2
  clear h
  go_enter Try.func29, Try.ntmps29
  go_wp2
  go_ret
  exact ⟨rfl, rfl⟩

theorem ref_put_full (h : RefAt w b B l most false) (x : Int) (hm : most ≤ 1024) (hfull : ¬ l.length < most) :
    Calls Try.prog 29 #[refPtr b, .int .i64 x] w fun e w' => e = .returned (.int .i64 17) ∧ ∃ k, w' = w.drewN k := by
  obtain ⟨v, h⟩ := h
  have hc0 := cell_of_block h.str 0
  have hc1 := cell_of_block h.str 1
  have hc2 := cell_of_block h.str 2
  simp at hc0 hc1 hc2
  have hle := h.le
  have hb : decide ((l.length : Int) < (most : Int)) = false := by simp; omega
  have hb2 : decide ((most : Int) ≤ (l.length : Int)) = true := by simp; omega
  obtain ⟨ao, c, rfl⟩ := h.sl.rd.nil_iff
  clear h
  go_enter Try.func29, Try.ntmps29
  go_wp2
  go_quiet (fail)
  go_wp2
  go_ret
  exact ⟨rfl, _, rfl⟩

theorem ref_put_ok (h : RefAtV w b B v l most false) (x : Int) (hm : most ≤ 1024) (hroom : l.length < most) (hB : B ≤ w.heap.size) :
    Calls Try.prog 29 #[refPtr b, .int .i64 x] w fun e w' => e = .returned (.int .i64 0) ∧ (∃ v', RefAtV w' b B v' (l ++ [x]) most false) ∧ Upd (refS b v) w w' := by
  obtain ⟨i0, hi, hz0, hz1, hz2⟩ := info_parts infoInt
  have hc0 := cell_of_block h.str 0
  have hc1 := cell_of_block h.str 1
  have hc2 := cell_of_block h.str 2
  have hf0 := frozen_of_block h.str 0
  simp at hc0 hc1 hc2
  have hle := h.le
  have hb2 : decide ((most : Int) ≤ (l.length : Int)) = false := by simp; omega
  have hblt := lt_of_block h.str
  have HS := h.sl
  have HF := h.fr
  have HL := h.lt
  obtain ⟨ao, c, rfl⟩ := h.sl.rd.nil_iff
  have H := Lib.hid h
  clear h
  go_enter Try.func29, Try.ntmps29
  go_wp2
  go_quiet (fail)
  have HS2 := HS.keep ((Upd.refl (fun _ => False) w).drewN nq) (fun _ _ h => h)
  go_wp2_with (at_builtin; refine wpList_append_one rfl _ _ 42 rfl i0 (.int .i64 0) 8 Try.underlying42 hi hz0 hz1 hz2 rfl (by decide) rfl HS2 [.int .i64 x] rfl rfl (by simp [Value.oneCell']) (by unfold maxLen; omega) (by omega) ?_)
  intro v' w3 hs3 hu3 hb3
  obtain ⟨vo, vc, rfl⟩ := hs3.rd.nil_iff
  have hfr3 := hb3.ge hB HF
  have hcc : w3.cell? ⟨b, 0, none⟩ = w.cell? ⟨b, 0, none⟩ := hu3.cell (p := ⟨b, 0, none⟩) hblt (fun e => by have := HF b e; omega)
  have hff : w3.frozen? ⟨b, 0, none⟩ = false := (hu3.frozen (p := ⟨b, 0, none⟩) hblt (fun e => by have := HF b e; omega)).trans hf0
  rw [hc0] at hcc
  have hstr : w3.heap[b]? = some (.cells #[.slice ao l.length c, .int .i64 most, .bool false] 59 (0, 0)) := (hu3.block b hblt (fun e => by have := HF b e; omega)).trans H.out.str
  have hu4 : Upd (refS b (.slice ao l.length c)) w w3 := ((Upd.refl _ w).drewN nq).new hu3 (fun i _ hs => .inr hs)
  have HU := Lib.hid (fun u => hu4.new ((upd_setCell w3 b 0 u).mono (S' := refS b (.slice ao l.length c)) (fun k _ hk => .inl hk)) (fun _ _ h => h))
  have hs3' : Sl w3 3 1 (.slice vo (l.length + 1) vc) (l ++ [x]).length (ints (l ++ [x])) := by rw [ints_append, List.length_append]; exact hs3
  have HR := Lib.hid (show RefAtV (w3.setCell ⟨b, 0, none⟩ (.slice vo (l.length + 1) vc)) b B (.slice vo (l.length + 1) vc) (l ++ [x]) most false from
    ⟨by have := heap_setCell_same hstr 0 (.slice vo (l.length + 1) vc); simpa using this, hs3'.keep_ne (upd_setCell _ _ _ _) (fun e => by have := hfr3 b e; omega), hfr3, HL, by simp; omega⟩)
  clear hstr hu4 hs3 hs3' hu3 hb3 HS HS2
  go_wp2
  go_ret
  exact ⟨rfl, ⟨_, HR.out⟩, HU.out _⟩
end

theorem RefAtV.allocd {w : World} {b B : Nat} {v : Value} {l : List Int} {most : Nat} {closed : Bool} (h : RefAtV w b B v l most closed) {w' : World} (hu : Upd (fun _ => False) w w') : RefAtV w' b B v l most closed :=
  ⟨(hu.block b (lt_of_block h.str) (fun h => h)).trans h.str, h.sl.keep hu (fun _ _ h => h), h.fr, h.lt, h.le⟩
theorem RefAtV.past {w : World} {N : Nat} {v : Value} {l : List Int} {most : Nat} {closed : Bool} (h : RefAtV w (N + 2) (N + 3) v l most closed) {w' : World} (hu : Upd (bc (N + 1) N) w w') : RefAtV w' (N + 2) (N + 3) v l most closed :=
  ⟨(hu.block _ (lt_of_block h.str) (by rintro (h | h) <;> omega)).trans h.str, h.sl.keep_lt h.fr hu (bc_lt (by omega) (by omega)), h.fr, h.lt, h.le⟩

theorem not_refS {b k : Nat} {v : Value} (hb : b ≠ k) (hv : ∀ g, v.ownBlock = some g → g < k) : ¬ refS b v k := by
  rintro (h | h)
  · exact hb h.symm
  · have := hv _ h; omega
end Go.Proofs.Ytolhlfahoooliaa
