/- The plain law of the items of a span: each rises, and is what it is; how many they are. -/
import Derived.Test.YtmgcekpfnkcmjaaSpan09
namespace Go.Proofs.Ytmgcekpfnkcmjaa
open Go

/-- The block that came last; -1. -/
def lastI (pre : List It9) : Int := match pre.getLast? with | some x => (x.1 : Int) | none => -1
theorem lastI_snoc (pre : List It9) (x : It9) : lastI (pre ++ [x]) = x.1 := by simp [lastI]
theorem lastI_le (pre : List It9) : -1 ≤ lastI pre := by unfold lastI; split <;> omega

/-- What is right of the next item. -/
def OkAt (ps : List (Int × Bool)) (f n : Nat) (pre : List It9) (x : It9) : Prop :=
  lastI pre < x.1 ∧ ∃ h : x.1 < ps.length, f ≤ x.1 ∧ x.1 - f < n ∧ x.2 = ps[x.1] ∧ 0 ≤ x.2.1

theorem visTo_last (qs : List (Int × Bool)) (f k : Nat) : lastI (visTo qs f k) < ((f + k : Nat) : Int) := by
  induction k with
  | zero => simp [visTo, lastI]; omega
  | succ k ih =>
    unfold visTo visAt
    split
    · simp; omega
    · rw [lastI_snoc]; simp only; omega

theorem visTo_next (qs : List (Int × Bool)) (f : Nat) : ∀ (m : Nat), m ≤ qs.length → ∀ (pre : List It9) (x : It9), pre ++ [x] <+: visTo qs f m → ∃ (k : Nat) (hk : k < qs.length), k < m ∧ pre = visTo qs f k ∧ x = (f + k, qs[k]) ∧ qs[k] ≠ (-1, false)
  | 0, _, pre, x, h => by
    have := h.length_le
    simp [visTo] at this
  | m + 1, hm, pre, x, h => by
    have hmq : m < qs.length := by omega
    by_cases hq : qs[m] = (-1, false)
    · rw [visTo_miss hmq hq] at h
      obtain ⟨k, hk, h1, h2⟩ := visTo_next qs f m (by omega) pre x h
      exact ⟨k, hk, by omega, h2⟩
    · rw [visTo_hit hmq hq] at h
      rcases List.prefix_concat_iff.1 h with h | h
      · have h1 := List.append_inj' h rfl
        obtain ⟨h1, h2⟩ := h1
        refine ⟨m, hmq, by omega, h1, by simpa using h2, hq⟩
      · obtain ⟨k, hk, h1, h2⟩ := visTo_next qs f m (by omega) pre x h
        exact ⟨k, hk, by omega, h2⟩

theorem items_ok {ps : List (Int × Bool)} {slots f n : Nat} (hg : Good ps slots) {pre : List It9} {x : It9} (h : pre ++ [x] <+: items ps f n) : OkAt ps f n pre x := by
  unfold items at h
  split at h
  · rename_i hf
    obtain ⟨k, hk, _, rfl, rfl, hne⟩ := visTo_next (spanL ps f n) f _ (Nat.le_refl _) pre x h
    have hkl : f + k < ps.length ∧ k < n := by simp [spanL] at hk; omega
    have e : (spanL ps f n)[k] = ps[f + k]'(hkl.1) := by simp [spanL]
    refine ⟨visTo_last _ _ _, hkl.1, by omega, by omega, e, ?_⟩
    simp only
    rw [e]
    rw [e] at hne
    rcases hg.each (f + k) hkl.1 with h1 | h1
    · exact absurd h1 hne
    · exact h1.1
  · have := h.length_le
    simp at this

/-- How many of the first j blocks are items. -/
def wantTo (ps : List (Int × Bool)) (f n j : Nat) : Nat := (visTo (spanL ps f n) f (min (j - f) (spanL ps f n).length)).length

theorem wantTo_zero (ps : List (Int × Bool)) (f n : Nat) : wantTo ps f n 0 = 0 := by simp [wantTo, visTo]
theorem wantTo_end (ps : List (Int × Bool)) (f n : Nat) : wantTo ps f n ps.length = (items ps f n).length := by
  unfold wantTo items
  by_cases hf : f < ps.length
  · rw [if_pos hf, Nat.min_eq_right]
    simp [spanL]; omega
  · rw [if_neg hf]
    have : ps.length - f = 0 := by omega
    simp [this, visTo]
theorem wantTo_out {ps : List (Int × Bool)} {f n j : Nat} (h : j < f ∨ n ≤ j - f) (_ : j < ps.length) : wantTo ps f n (j + 1) = wantTo ps f n j := by
  unfold wantTo
  rcases h with h | h
  · have e1 : j + 1 - f = 0 := by omega
    have e2 : j - f = 0 := by omega
    rw [e1, e2]
  · have hs : (spanL ps f n).length ≤ n := by simp [spanL]; omega
    rw [Nat.min_eq_right (by omega), Nat.min_eq_right (by omega)]
theorem wantTo_in {ps : List (Int × Bool)} {f n j : Nat} (h1 : f ≤ j) (h2 : j - f < n) (hj : j < ps.length) : wantTo ps f n (j + 1) = wantTo ps f n j + (if ps[j] = (-1, false) then 0 else 1) := by
  have hk : j - f < (spanL ps f n).length := by simp [spanL]; omega
  have e : (spanL ps f n)[j - f] = ps[j] := by simp [spanL]; congr 1; omega
  unfold wantTo
  rw [Nat.min_eq_left (by omega), Nat.min_eq_left (by omega), show j + 1 - f = (j - f) + 1 by omega]
  by_cases hq : (spanL ps f n)[j - f] = (-1, false)
  · rw [visTo_miss hk hq, if_pos (by rw [← e]; exact hq)]; rfl
  · rw [visTo_hit hk hq, if_neg (by rw [← e]; exact hq)]; simp
theorem wantTo_le (ps : List (Int × Bool)) (f n j : Nat) : wantTo ps f n j ≤ (spanL ps f n).length := Nat.le_trans (visTo_len _ _ _) (Nat.min_le_right _ _)
end Go.Proofs.Ytmgcekpfnkcmjaa
