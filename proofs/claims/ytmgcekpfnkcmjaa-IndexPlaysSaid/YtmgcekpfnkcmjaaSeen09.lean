/- Which slots were seen, of the first k blocks. -/
import Derived.Test.YtmgcekpfnkcmjaaIndexCount
namespace Go.Proofs.Ytmgcekpfnkcmjaa
open Go Go.RowKit

def snB (ps : List (Int × Bool)) (k s : Nat) : Bool := match atOf ps (s : Int) with | some j => decide (j < k) | none => false
def snL (ps : List (Int × Bool)) (k : Nat) : List Value := (List.range 6).map fun s => .bool (snB ps k s)
def snA (ps : List (Int × Bool)) (k : Nat) : Array Value := (snL ps k).toArray
theorem snL_len (ps : List (Int × Bool)) (k : Nat) : (snL ps k).length = 6 := by simp [snL]
theorem snA_at (ps : List (Int × Bool)) (k : Nat) {s : Nat} (h : s < 6) : (snA ps k)[s]? = some (.bool (snB ps k s)) := by
  simp [snA, snL, h]
theorem snB_zero (ps : List (Int × Bool)) (s : Nat) : snB ps 0 s = false := by unfold snB; split <;> simp
theorem snA_zero (ps : List (Int × Bool)) : snA ps 0 = #[.bool false, .bool false, .bool false, .bool false, .bool false, .bool false] := by
  simp [snA, snL, snB_zero, List.range_succ]
theorem snL_ext {ps : List (Int × Bool)} {k k' : Nat} (h : ∀ s, s < 6 → snB ps k s = snB ps k' s) : snL ps k = snL ps k' := by
  unfold snL
  apply List.map_congr_left
  intro s hs
  rw [h s (by simpa using hs)]
theorem snA_miss {ps : List (Int × Bool)} {k : Nat} (hk : k < ps.length) (h : ps[k] = (-1, false)) : snA ps (k + 1) = snA ps k := by
  unfold snA
  rw [snL_ext]
  intro s _
  unfold snB
  split
  · rename_i j hj
    obtain ⟨h0, hj1, he⟩ := atOf_some hj
    have : j ≠ k := fun e => by subst e; rw [h] at he; simp at he
    simp; omega
  · rfl
theorem snB_fresh {ps : List (Int × Bool)} {slots k s : Nat} (h : Good ps slots) (hk : k < ps.length) (he : ps[k].1 = s) : snB ps k s = false := by
  unfold snB
  rw [← he, h.at hk (by omega)]
  simp
theorem snB_hit {ps : List (Int × Bool)} {slots k s t : Nat} (h : Good ps slots) (hk : k < ps.length) (he : ps[k].1 = s) : snB ps (k + 1) t = if t = s then true else snB ps k t := by
  split
  · rename_i e; subst e
    unfold snB
    rw [← he, h.at hk (by omega)]
    simp
  · rename_i hne
    unfold snB
    split
    · rename_i j hj
      obtain ⟨h0, hj1, he2⟩ := atOf_some hj
      have : j ≠ k := fun e => by subst e; omega
      simp; omega
    · rfl
theorem snA_hit {ps : List (Int × Bool)} {slots k s : Nat} (h : Good ps slots) (hk : k < ps.length) (he : ps[k].1 = s) (_ : s < 6) : (snA ps k).setIfInBounds s (.bool true) = snA ps (k + 1) := by
  apply Array.ext_getElem?
  intro i
  by_cases hi : i < 6
  · rw [snA_at ps (k + 1) hi, snB_hit h hk he]
    by_cases e : i = s
    · subst e
      rw [Array.getElem?_setIfInBounds_self, if_pos (by simp [snA, snL_len]; omega)]
      simp
    · rw [Array.getElem?_setIfInBounds_ne (fun e' => e e'.symm), snA_at ps k hi, if_neg e]
  · have h1 : (snA ps k).size ≤ i := by simp [snA, snL_len]; omega
    have h2 : (snA ps (k + 1)).size ≤ i := by simp [snA, snL_len]; omega
    rw [Array.getElem?_eq_none (by simpa using h1), Array.getElem?_eq_none h2]
theorem snB_end (ps : List (Int × Bool)) (s : Nat) : snB ps ps.length s = (atOf ps (s : Int)).isSome := by
  unfold snB
  split
  · rename_i j hj
    obtain ⟨_, hj1, _⟩ := atOf_some hj
    rw [hj]; simp; omega
  · rename_i hj; rw [hj]; rfl

theorem span_all {ps : List (Int × Bool)} (h : ps.length ≤ 4096) : spanL ps 0 4096 = ps := by
  unfold spanL
  rw [List.drop_zero, List.take_of_length_le h]
theorem cntD_snoc (l : List It9) (x : It9) : cntD (l ++ [x]) = cntD l + (if x.2.2 then 1 else 0) := by
  cases hd : x.2.2 <;> simp [cntD, hd]
end Go.Proofs.Ytmgcekpfnkcmjaa
