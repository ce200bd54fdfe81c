/- Two slices in boxes, one appended to beside the other. -/
import Derived.Test.YtmgcekpfnkcmjaaSpan09
import Derived.Maps.OwnIn
namespace Go.Proofs.Ytmgcekpfnkcmjaa
open Go Go.RowKit Go.Shelf

/-- The other box, its slice, and whatever block of another type, behind an append. -/
theorem app_other {W w1 : World} {n₀ B B2 : Nat} {t t2 e e2 : TypeId} {sz sz2 : Nat} {v v' u : Value} {k k2 m : Nat} {xs ys ys2 : List Value} {tmp : Obj}
    (hv : Boxed W B t v) (hu : Boxed W B2 t2 u) (hte : t ≠ e) (ht2e : t2 ≠ e) (hte2 : t ≠ e2) (hBB : B2 ≠ B) (hr1 : W.ownsRow n₀ e sz v k xs) (hr2 : W.ownsRow n₀ e2 sz2 u k2 ys2) (hd : Dis v u)
    (_ : w1.ownsRow n₀ e sz v' m ys) (hgrow : (W.alloc tmp).grownBy w1 v.ownBlock) (hfrom : v'.ownBlock = v.ownBlock ∨ v'.ownBlock = some (W.alloc tmp).heap.size) :
    Boxed (w1.setCell ⟨B, 0, none⟩ v') B2 t2 u ∧ (w1.setCell ⟨B, 0, none⟩ v').ownsRow n₀ e2 sz2 u k2 ys2 ∧ Dis v' u ∧
      ∀ (pb : Nat) (tp : TypeId) (cs : Array Value), tp ≠ e → tp ≠ t → W.heap[pb]? = some (.cells cs tp (0, 0)) → (w1.setCell ⟨B, 0, none⟩ v').heap[pb]? = some (.cells cs tp (0, 0)) := by
  have hu1 : Boxed w1 B2 t2 u := (hu.alloc tmp).kept hgrow (hu.not_row ht2e hr1)
  have hv1 : Boxed w1 B t v := (hv.alloc tmp).kept hgrow (hv.not_row hte hr1)
  have hur : u.ownBlock = none ∨ u.ownBlock ≠ v.ownBlock := by
    cases hq : u.ownBlock with
    | none => exact .inl rfl
    | some g => exact .inr (fun e => hd g (e ▸ rfl) hq)
  have hr21 : w1.ownsRow n₀ e2 sz2 u k2 ys2 := (hr2.alloc tmp).kept hgrow hur
  have hr22 := hr21.kept (grownBy_setCell' w1 B v') (.inr (hv1.not_row hte2 hr21).symm)
  refine ⟨hu1.other hBB v', hr22, ?_, ?_⟩
  · intro g h1 h2
    rcases hfrom with h | h
    · exact hd g (by rw [← h]; exact h1) h2
    · rw [h] at h1
      cases h1
      rcases hr2.2 with ⟨rfl, _⟩ | ⟨g', cap, cur, rfl, _, hg, _⟩
      · cases h2
      · simp [Value.ownBlock] at h2
        have := (Array.getElem?_eq_some_iff.1 hg).1
        omega
  · intro pb tp cs h1 h2 hpb
    have hlt := (Array.getElem?_eq_some_iff.1 hpb).1
    have hne : some pb ≠ v.ownBlock := by
      intro e'
      rcases hr1.2 with ⟨rfl, _⟩ | ⟨g', cap, cur, rfl, _, hg, _⟩
      · cases e'
      · simp [Value.ownBlock] at e'
        subst e'
        rw [hg] at hpb
        injection hpb with hq
        injection hq with _ hq2 _
        exact h1 hq2.symm
    have hne2 : pb ≠ B := by
      intro e'
      subst e'
      rw [show W.heap[pb]? = _ from hv] at hpb
      injection hpb with hq
      injection hq with _ hq2 _
      exact h2 hq2.symm
    have hp1 := (hgrow.block pb (by simp; omega) hne).trans ((World.grownBy_alloc W tmp none).block pb hlt (by simp) |>.trans hpb)
    rw [Below.heap_setCell _ _ _ _ hne2]
    exact hp1

/-- Two slices that hold what came. -/
def rowsAt (W : World) (M : Nat) (v u : Value) (pre : List It9) : Prop :=
  W.ownsRow M 3 1 v pre.length (pre.map fun x => .int .i64 (x.1 : Int)) ∧ W.ownsRow M 36 2 u pre.length (plC (pre.map (·.2))) ∧ Dis v u
/-- .. in two boxes. -/
def boxes2 (M : Nat) (pre : List It9) (W : World) : Prop := ∃ v u, Boxed W M 45 v ∧ Boxed W (M + 1) 46 u ∧ rowsAt W M v u pre

theorem row_kept {X Y : World} {row : Option Nat} {M sz : Nat} {e : TypeId} {v : Value} {n : Nat} {xs : List Value} (h : X.ownsRow M e sz v n xs) (hg : X.grownBy Y row) (hr : ∀ r, row = some r → ∃ o : Obj, X.heap[r]? = some o ∧ o.isCells = false) : Y.ownsRow M e sz v n xs := by
  refine h.kept hg ?_
  rcases h.2 with ⟨rfl, _⟩ | ⟨g, cap, cur, rfl, _, hgb, _⟩
  · exact .inl rfl
  · refine .inr (fun e' => ?_)
    obtain ⟨o, ho, hc⟩ := hr g e'.symm
    rw [hgb] at ho
    cases ho
    simp [Obj.isCells] at hc
theorem boxes2_own (M : Nat) : Own (boxes2 M) := by
  rintro s X Y row ⟨v, u, h1, h2, h3, h4, h5⟩ hg hr
  exact ⟨v, u, boxed_kept h1 hg hr, boxed_kept h2 hg hr, row_kept h3 hg hr, row_kept h4 hg hr, h5⟩

/-- Where the loop's place lies, in a block of its own. -/
def plBox (x : It9) (pb : Nat) (W : World) : Prop := W.heap[pb]? = some (.cells #[.int .i64 x.2.1, .bool x.2.2] 36 (0, 0))
theorem block_kept {X Y : World} {row : Option Nat} {b : Nat} {cs : Array Value} {T : TypeId} (h : X.heap[b]? = some (.cells cs T (0, 0))) (hg : X.grownBy Y row) (hr : ∀ r, row = some r → ∃ o : Obj, X.heap[r]? = some o ∧ o.isCells = false) : Y.heap[b]? = some (.cells cs T (0, 0)) :=
  (hg.block b (Array.getElem?_eq_some_iff.1 h).1 (fun e => by
    obtain ⟨o, ho, hc⟩ := hr b e.symm
    rw [h] at ho
    cases ho
    simp [Obj.isCells] at hc)).trans h
theorem plBox_own (B : Nat) (x : It9) (pb : Nat) : OwnFrom B (fun (_ : Unit) W => plBox x pb W) := fun _ _ _ _ hs hg hr => block_kept hs hg (fun r e => (hr r e).2)
theorem infoI9s : (Try.prog.info? 3).map (fun i => (i.zero, i.size, i.bytes)) = some (some (.int .i64 0), 1, 8) := by kernel_rfl
theorem cells_two_new (w : World) (x y : Value) (t : TypeId) : ∀ j u, [x, y][j]? = some u → (w.alloc (.cells #[x, y] t)).cell? ((⟨w.heap.size, 0, none⟩ : Addr).add j) = some u := by
  intro j u hj
  rw [Addr.add_lit, cell_of_block (heap_alloc_last w _ rfl)]
  simpa using hj
theorem upd_below {n₀ : Nat} {W W' : World} (h : Below n₀ W W') : Upd (fun j => n₀ ≤ j) W W' := ⟨h.os, h.tape, h.output, h.size, fun k _ hs => h.block k (by omega)⟩
theorem rows_snoc {W : World} {M : Nat} {v u : Value} {pre : List It9} {x : It9} (h1 : W.ownsRow M 3 1 v (pre.length + 1) ((pre.map fun x => .int .i64 (x.1 : Int)) ++ [.int .i64 (x.1 : Int)]))
    (h2 : W.ownsRow M 36 2 u (pre.length + 1) (plC (pre.map (·.2)) ++ [.int .i64 x.2.1, .bool x.2.2])) (hd : Dis v u) : rowsAt W M v u (pre ++ [x]) := by
  refine ⟨by simpa using h1, ?_, hd⟩
  have e : plC ((pre ++ [x]).map (·.2)) = plC (pre.map (·.2)) ++ [.int .i64 x.2.1, .bool x.2.2] := by simp [plC]
  rw [e, List.length_append]
  exact h2
theorem ownFrom_block {β : Type} {B D : Nat} {o : Obj} (h : D < B) : OwnFrom B (fun (_ : β) W => W.heap[D]? = some o) := fun _ _ _ _ hs hg hr =>
  (hg.block D (Array.getElem?_eq_some_iff.1 hs).1 (fun e => by have := (hr D e.symm).1; omega)).trans hs
theorem prefix_snoc {α : Type} {pre L : List α} {x : α} (h : pre <+: L) : (pre ++ [x]) <+: L ↔ ∃ hlt : pre.length < L.length, L[pre.length] = x := by
  obtain ⟨r, rfl⟩ := h
  constructor
  · rintro ⟨t, ht⟩
    rw [List.append_assoc] at ht
    have := List.append_cancel_left ht
    subst this
    exact ⟨by simp, by simp⟩
  · rintro ⟨hlt, he⟩
    cases r with
    | nil => simp at hlt
    | cons y r =>
      have : y = x := by simpa using he
      subst this
      exact ⟨r, by simp⟩
end Go.Proofs.Ytmgcekpfnkcmjaa
