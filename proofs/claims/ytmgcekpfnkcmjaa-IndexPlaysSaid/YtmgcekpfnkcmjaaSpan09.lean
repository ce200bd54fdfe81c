/- The iterator that All gives, whatever the span; the plain law of parted spans. -/
import Derived.Test.YtmgcekpfnkcmjaaIndexCount
namespace Go.Proofs.Ytmgcekpfnkcmjaa
open Go Go.RowKit Go.Shelf

/-- The blocks of a span. -/
def items (ps : List (Int × Bool)) (f n : Nat) : List It9 := if f < ps.length then vis (spanL ps f n) f else []

/-- What is asked of an iterator: it gives xs, whatever the body turns of the blocks from B on. -/
def Gives (w : World) (gf : Nat) (lb : Array Value) (xs : List It9) : Prop :=
  (∀ args w, (callFunc gf args).run Try.prog w = .ok (.enter gf args) w) ∧
  ∀ (n : Nat), 2 ≤ n → ∀ (S : Nat → Prop), (∀ j, S j → w.heap.size ≤ j) → ∀ w2, Below w.heap.size w w2 →
    SeqStopsK Fence.wide n Try.prog gf lb enc9 (Upd S) (fun ys => ys = xs) (fun pre => pre <+: xs) xs.length w2
theorem Gives.below {w w' : World} {gf : Nat} {lb : Array Value} {xs : List It9} (h : Gives w gf lb xs) (hb : Below w.heap.size w w') : Gives w' gf lb xs :=
  ⟨h.1, fun n hn S hS w2 hw2 => h.2 n hn S (fun j hj => Nat.le_trans hb.size (hS j hj)) w2 (hb.trans (hw2.mono hb.size))⟩

theorem all_span {w : World} {b mb N : Nat} {v : Value} {ps : List (Int × Bool)} {slots : Nat} (h : IndexAt w b v mb N ps slots) (f n : Nat) :
    Calls Try.prog 20 #[.pointer (some ⟨b, 0, none⟩), spanV f n] w fun e w' => ∃ gf lb, e = .returned (.func (.func gf) #[] lb) ∧ Gives w' gf lb (items ps f n) ∧ Below w.heap.size w w' := by
  by_cases hf : f < ps.length
  · refine (all_in h f n hf).mono ?_
    rintro e w1 ⟨Bs, Bp, g, off, cap, rfl, hge, hBs, hBp, hg, hcs, hcp, hcl, hb1⟩
    have hlen : (spanL ps f n).length ≤ 4096 := by have := h.le; simp [spanL]; omega
    have hgood : ∀ k (h : k < (spanL ps f n).length), (spanL ps f n)[k] = (-1, false) ∨ 0 ≤ (spanL ps f n)[k].1 := by
      intro k hk
      have e : (spanL ps f n)[k] = ps[f + k]'(by simp [spanL] at hk; omega) := by simp [spanL]
      rw [e]
      rcases h.good.each (f + k) (by simp [spanL] at hk; omega) with e | e
      · exact .inl e
      · exact .inr e.1
    refine ⟨_, _, rfl, ⟨enters_of Try.func56 (by kernel_rfl) rfl, fun m hm S hS w2 hw2 => ?_⟩, hb1⟩
    have hi : items ps f n = vis (spanL ps f n) f := if_pos hf
    rw [hi]
    exact it_stops m hm S Bs Bp g off cap (spanL ps f n) f w2 hlen (by have := h.le; omega) hgood (Nat.lt_of_lt_of_le hg hw2.size) (Nat.lt_of_lt_of_le hBp hw2.size) (Nat.lt_of_lt_of_le hBs hw2.size)
      (fun e => by have := hS _ e; omega) (fun e => by have := hS _ e; omega) ((hw2.cell (p := ⟨Bs, 0, none⟩) hBs).trans hcs) ((hw2.cell (p := ⟨Bp, 0, none⟩) hBp).trans hcp)
      (fun j hj => ⟨(hw2.cell (p := ⟨g, off + j * 2, none⟩) hg).trans (hcl j hj).1, (hw2.cell (p := ⟨g, off + j * 2 + 1, none⟩) hg).trans (hcl j hj).2⟩)
  · refine (all_out h f n (.inr (.inr (by omega)))).mono ?_
    rintro e w1 ⟨rfl, hb1⟩
    refine ⟨_, _, rfl, ⟨enters_of Try.func55 (by kernel_rfl) rfl, fun m _ S _ w2 _ => ?_⟩, hb1⟩
    have hi : items ps f n = [] := if_neg hf
    rw [hi]
    exact none_stops m S w2

/-! ### spans in parts -/
theorem visTo_append (xs ys : List (Int × Bool)) (f : Nat) : ∀ k, visTo (xs ++ ys) f (xs.length + k) = visTo xs f xs.length ++ visTo ys (f + xs.length) k := by
  have h0 : ∀ k, k ≤ xs.length → visTo (xs ++ ys) f k = visTo xs f k := by
    intro k
    induction k with
    | zero => intro _; rfl
    | succ k ih =>
      intro hk
      have e : (xs ++ ys)[k]? = xs[k]? := List.getElem?_append_left (by omega)
      simp only [visTo, visAt, e, ih (by omega)]
  intro k
  induction k with
  | zero => simp [visTo, h0]
  | succ k ih =>
    have e : (xs ++ ys)[xs.length + k]? = ys[k]? := by rw [List.getElem?_append_right (by omega)]; congr 1; omega
    rw [← Nat.add_assoc]
    simp only [visTo, visAt, e, ih, List.append_assoc, Nat.add_assoc]

theorem vis_append (xs ys : List (Int × Bool)) (f : Nat) : vis (xs ++ ys) f = vis xs f ++ vis ys (f + xs.length) := by
  unfold vis
  rw [List.length_append, visTo_append]

theorem items_parts (ps : List (Int × Bool)) (f n a : Nat) (ha : a ≤ n) : items ps f a ++ items ps (f + a) (n - a) = items ps f n := by
  unfold items
  by_cases hf : f < ps.length
  · have e : spanL ps f n = spanL ps f a ++ spanL ps (f + a) (n - a) := by
      unfold spanL
      rw [← List.drop_drop]
      rw [show n = a + (n - a) by omega, List.take_add, show a + (n - a) - a = n - a by omega]
    rw [if_pos hf, if_pos hf, e, vis_append]
    congr 1
    by_cases hfa : f + a < ps.length
    · rw [if_pos hfa]
      have : (spanL ps f a).length = a := by simp [spanL]; omega
      rw [this]
    · rw [if_neg hfa]
      have : spanL ps (f + a) (n - a) = [] := by unfold spanL; rw [List.drop_eq_nil_of_le (by omega)]; simp
      rw [this]; rfl
  · rw [if_neg hf, if_neg hf, if_neg (by omega)]; rfl

theorem items_len (ps : List (Int × Bool)) (f n : Nat) : (items ps f n).length ≤ ps.length := by
  unfold items
  split
  · have := visTo_len (spanL ps f n) f (spanL ps f n).length
    have h2 : (spanL ps f n).length ≤ ps.length := by simp [spanL]; omega
    exact Nat.le_trans this h2
  · simp
end Go.Proofs.Ytmgcekpfnkcmjaa
