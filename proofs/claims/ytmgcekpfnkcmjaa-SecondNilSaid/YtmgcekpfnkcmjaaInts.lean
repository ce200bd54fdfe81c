/- 'Ints': are two lists the same. -/
import Derived.Test.YtmgcekpfnkcmjaaSl
import Derived.Test.YtmgcekpfnkcmjaaProg
namespace Go.Proofs.Ytmgcekpfnkcmjaa
open Go Go.RowKit

def ints (l : List Int) : List Value := l.map (.int .i64)
@[simp] theorem ints_nil : ints [] = [] := rfl
@[simp] theorem ints_cons (x : Int) (l : List Int) : ints (x :: l) = .int .i64 x :: ints l := rfl
@[simp] theorem ints_append (l m : List Int) : ints (l ++ m) = ints l ++ ints m := by simp [ints]
@[simp] theorem length_ints (l : List Int) : (ints l).length = l.length := by simp [ints]
theorem get_ints {l : List Int} {j : Nat} (h : j < l.length) : (ints l)[j]? = some (.int .i64 l[j]) := by simp [ints, h]

theorem eq_of_take {l m : List Int} (hl : l.length = m.length) {k : Nat} (hk : k < l.length) (h : l.take k = m.take k) (he : l[k] = m[k]) : l.take (k + 1) = m.take (k + 1) := by
  rw [List.take_succ_eq_append_getElem hk, List.take_succ_eq_append_getElem (by omega), h, he]

theorem ne_of_get {l m : List Int} (k : Nat) (hk : k < l.length) (hm : k < m.length) (he : l[k] ≠ m[k]) : l ≠ m := by
  rintro rfl; exact he rfl

set_option maxHeartbeats 400000 in
theorem ints_ne {v v' : Value} {l m : List Int} {w : World} (h1 : Rd w 1 v l.length (ints l)) (h2 : Rd w 1 v' m.length (ints m)) (hne : l.length ≠ m.length) :
    Calls Try.prog 41 #[v, v'] w fun e w' => e = .returned (.bool false) ∧ ∃ k, w' = w.drewN k := by
  have hle1 := h1.le; have hle2 := h2.le
  unfold maxLen at hle1 hle2
  obtain ⟨ao1, c1, rfl⟩ := h1.nil_iff
  obtain ⟨ao2, c2, rfl⟩ := h2.nil_iff
  have hb : ((l.length : Int) != m.length) = true := by simp; omega
  go_enter Try.func41, Try.ntmps41
  go_wp2
  go_ret
  exact ⟨rfl, 0, rfl⟩

set_option maxHeartbeats 400000 in
theorem ints_eq {v v' : Value} {l m : List Int} {w : World} (h1 : Rd w 1 v l.length (ints l)) (h2 : Rd w 1 v' m.length (ints m)) (heq : l.length = m.length) :
    Calls Try.prog 41 #[v, v'] w fun e w' => e = .returned (.bool (decide (l = m))) ∧ ∃ k, w' = w.drewN k := by
  have hle1 := h1.le; have hle2 := h2.le
  unfold maxLen at hle1 hle2
  have H1 := Lib.hid h1; have H2 := Lib.hid h2; have HE := Lib.hid heq
  obtain ⟨ao1, c1, rfl⟩ := h1.nil_iff
  obtain ⟨ao2, c2, rfl⟩ := h2.nil_iff
  have hb : ((l.length : Int) != m.length) = false := by simp; omega
  clear h1 h2 heq
  go_enter Try.func41, Try.ntmps41
  go_wp2
  clear hb
  go_loopw [5] (fun i wr => ∃ k : Nat, k ≤ l.length ∧ i = .int .i64 k ∧ l.take k = m.take k ∧ ∃ d, wr = w.drewN d) (fun i _ => l.length - (intOf i).toNat)
  case atStart => exact ⟨0, Nat.zero_le _, rfl, rfl, 0, rfl⟩
  case round =>
    obtain ⟨k, hk, rfl, ht, d, rfl⟩ := hrel
    have HT := Lib.hid ht; clear ht
    by_cases hlt : k < l.length
    · have hlt2 : k < m.length := by have := HE.out; omega
      obtain ⟨b1, o1, cc1, hv1, hbl1, hcc1⟩ := H1.out.at (by omega)
      obtain ⟨b2, o2, cc2, hv2, hbl2, hcc2⟩ := H2.out.at (by omega)
      cases hv1; cases hv2
      have hx := hcc1 k _ (get_ints hlt)
      have hy := hcc2 k _ (get_ints hlt2)
      clear hcc1 hcc2
      by_cases he : l[k] = m[k]
      · have hb : (l[k] != m[k]) = false := by simpa using he
        have HN := Lib.hid (eq_of_take HE.out hlt HT.out he)
        clear he
        go_wp2
        go_quiet (fail)
        go_wp2
        exact ⟨⟨k + 1, by omega, by go_num, HN.out, _, rfl⟩, by simp [intOf]; omega⟩
      · have hb : (l[k] != m[k]) = true := by simpa using he
        have HN := Lib.hid (ne_of_get k hlt hlt2 he)
        clear he
        go_wp2
        go_quiet (fail)
        go_wp2
        go_ret
        exact ⟨by rw [decide_eq_false HN.out]; rfl, _, drewN_twice _ _ _⟩
    · have HN : Hid (l = m) := by
        have h1 := HT.out
        rw [List.take_of_length_le (by omega), List.take_of_length_le (by have := HE.out; omega)] at h1
        exact h1
      go_wp2
      go_ret
      exact ⟨by rw [decide_eq_true HN.out]; rfl, _, rfl⟩

theorem ints_any {v v' : Value} {l m : List Int} {w : World} (h1 : Rd w 1 v l.length (ints l)) (h2 : Rd w 1 v' m.length (ints m)) :
    Calls Try.prog 41 #[v, v'] w fun e w' => e = .returned (.bool (decide (l = m))) ∧ ∃ k, w' = w.drewN k := by
  by_cases h : l.length = m.length
  · exact ints_eq h1 h2 h
  · rw [decide_eq_false (fun e => h (by rw [e]))]; exact ints_ne h1 h2 h
end Go.Proofs.Ytmgcekpfnkcmjaa
