/- The clock's row of keys: slices.Index, find (with its deferred closure). -/
import Derived.Test.YtmgcekpfnkcmjaaInts
import Derived.Defers
import Derived.Recover
namespace Go.Proofs.Ytmgcekpfnkcmjaa
open Go Go.RowKit

/-- The place of a key in a row; -1. -/
def idxI (l : List Int) (k : Int) : Int := match l.findIdx? (· == k) with | some i => (i : Int) | none => -1
theorem idxI_hit {l : List Int} {k : Int} {i : Nat} (hi : i < l.length) (he : l[i] = k) (hb : ∀ j (h : j < l.length), j < i → l[j] ≠ k) : idxI l k = i := by
  unfold idxI
  have : l.findIdx? (· == k) = some i := by
    rw [List.findIdx?_eq_some_iff_getElem]
    exact ⟨hi, by simpa using he, fun j hj => by simpa using hb j (by omega) hj⟩
  rw [this]
theorem idxI_none {l : List Int} {k : Int} (hb : ∀ j (h : j < l.length), l[j] ≠ k) : idxI l k = -1 := by
  unfold idxI
  have : l.findIdx? (· == k) = none := by
    rw [List.findIdx?_eq_none_iff]
    intro x hx
    obtain ⟨j, hj, rfl⟩ := List.getElem_of_mem hx
    simpa using hb j hj
  rw [this]

theorem sindex_any {w : World} {v : Value} {l : List Int} (h : Rd w 1 v l.length (ints l)) (hle : l.length ≤ 4096) (k : Int) :
    Calls Try.prog 91 #[v, .int .i64 k] w fun e w' => e = .returned (.int .i64 (idxI l k)) ∧ w' = w := by
  have H := Lib.hid h
  obtain ⟨ao, c, rfl⟩ := h.nil_iff
  clear h
  go_enter Try.func91, Try.ntmps91
  go_wp2
  go_loopg [8] l.length (fun g i wr => ∃ j : Nat, j + g = l.length ∧ i = .int .i64 j ∧ (∀ m (h : m < l.length), m < j → l[m] ≠ k) ∧ wr = w)
  case atStart => exact ⟨0, by omega, rfl, fun m h hm => by omega, rfl⟩
  case round =>
    obtain ⟨j, hj, rfl, hno, rfl⟩ := hrel
    by_cases hlt : j < l.length
    · obtain ⟨g, off, c', hv, hg, hc⟩ := H.out.at (by omega)
      cases hv
      have hcj := hc j _ (get_ints hlt)
      have HN := Lib.hid hno
      clear hc hno
      by_cases he : l[j] = k
      · have hb : (k == l[j]) = true := by simp [he]
        have ha : Hid (idxI l k = j) := idxI_hit hlt he HN.out
        clear he
        go_wp2
        go_ret
        exact ⟨by rw [ha.out]; rfl, rfl⟩
      · have hb : (k == l[j]) = false := by simp; exact fun e => he e.symm
        have hne : Hid (l[j] ≠ k) := he
        clear he
        go_wp2
        go_roundg (gk - 1)
        case measure => omega
        case rel => exact ⟨j + 1, by omega, by go_num, fun m hm hmj => by
          by_cases e : m = j
          · subst e; exact hne.out
          · exact HN.out m hm (by omega), rfl⟩
    · obtain rfl : j = l.length := by omega
      have ha : Hid (idxI l k = -1) := idxI_none (fun m hm => hno m hm hm)
      clear hno
      go_wp2
      go_ret
      exact ⟨by rw [ha.out]; rfl, rfl⟩
end Go.Proofs.Ytmgcekpfnkcmjaa
