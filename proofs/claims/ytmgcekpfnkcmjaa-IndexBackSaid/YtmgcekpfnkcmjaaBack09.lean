/- To put, and to put back. -/
import Derived.Test.YtmgcekpfnkcmjaaSeen09
import Derived.Test.YtmgcekpfnkcmjaaPlay09
namespace Go.Proofs.Ytmgcekpfnkcmjaa
open Go Go.RowKit

theorem putC_zero {ps : List (Int × Bool)} {slots : Nat} {k s : Int} (h : putC ps slots k s = 0) : ∃ (n : Nat) (_ : n < ps.length), k = n ∧ 0 ≤ s ∧ s < slots ∧ mayPut ps n s := by
  unfold putC at h
  by_cases ho : k < 0 ∨ (ps.length : Int) ≤ k ∨ s < 0 ∨ (slots : Int) ≤ s
  · rw [if_pos ho] at h; cases h
  · rw [if_neg ho] at h
    obtain ⟨n, rfl⟩ : ∃ n : Nat, k = n := ⟨k.toNat, by omega⟩
    refine ⟨n, by omega, rfl, by omega, by omega, ?_⟩
    by_cases hm : atOf ps s = none ∨ atOf ps s = some (n : Int).toNat
    · simpa [mayPut] using hm
    · rw [if_neg hm] at h; cases h

section
variable {ps : List (Int × Bool)} {slots n : Nat} {s : Int}

theorem get_put (hn : n < ps.length) (h0 : 0 ≤ s) (d : Bool) : getC (ps.set n (s, d)) n = 0 ∧ getV (ps.set n (s, d)) n = (s, d) := by
  have ho : ¬ ((n : Int) < 0 ∨ ((ps.set n (s, d)).length : Int) ≤ n) := by simp; omega
  have e : (ps.set n (s, d)).getD n (-1, false) = (s, d) := by rw [getD_at (by simpa using hn)]; simp
  have hne : ((s, d) : Int × Bool) ≠ (-1, false) := fun e => by have := congrArg Prod.fst e; simp at this; omega
  unfold getC getV
  simp only [if_neg ho, Int.toNat_natCast, e, if_neg hne]
  exact ⟨trivial, trivial⟩

theorem drop_put (hn : n < ps.length) (h0 : 0 ≤ s) (d : Bool) (hp : ps[n] = (-1, false)) : dropL (ps.set n (s, d)) n = ps := by
  unfold dropL
  rw [if_pos (get_put hn h0 d).1, Int.toNat_natCast, List.set_set]
  rw [← hp]
  exact List.set_getElem_self hn

theorem putC_back (hg : Good ps slots) (hn : n < ps.length) (h0 : 0 ≤ s) (h1 : s < slots) (hm : mayPut ps n s) (d : Bool) (hp : 0 ≤ ps[n].1) : putC (ps.set n (s, d)) slots n ps[n].1 = 0 := by
  have hp1 : ps[n].1 < slots := by
    rcases hg.each n hn with e | e
    · rw [e] at hp; simp at hp
    · exact e.2
  unfold putC
  have ho : ¬ ((n : Int) < 0 ∨ ((ps.set n (s, d)).length : Int) ≤ n ∨ ps[n].1 < 0 ∨ (slots : Int) ≤ ps[n].1) := by simp; omega
  rw [if_neg ho, if_pos]
  rw [Int.toNat_natCast]
  cases ha : atOf (ps.set n (s, d)) ps[n].1 with
  | none => exact .inl rfl
  | some j =>
    right
    obtain ⟨_, hj, he⟩ := atOf_some ha
    by_cases e : j = n
    · rw [e]
    · rw [List.getElem_set_ne (fun e' => e e'.symm)] at he
      exact absurd (hg.inj j n (by simpa using hj) hn (by omega) he) e

theorem put_back (hg : Good ps slots) (hn : n < ps.length) (h0 : 0 ≤ s) (h1 : s < slots) (hm : mayPut ps n s) (d : Bool) (hp : 0 ≤ ps[n].1) : putL (ps.set n (s, d)) slots n ps[n].1 ps[n].2 = ps := by
  unfold putL
  rw [if_pos (putC_back hg hn h0 h1 hm d hp), Int.toNat_natCast, List.set_set]
  exact List.set_getElem_self hn
end
end Go.Proofs.Ytmgcekpfnkcmjaa
