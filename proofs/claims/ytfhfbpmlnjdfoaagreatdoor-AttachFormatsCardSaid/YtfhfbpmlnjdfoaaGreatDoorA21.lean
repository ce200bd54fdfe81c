/- The index: Put, Drop, Clean, At. The index: Put out of range. The index: Drop, Clean, At; Get, Put, Drop, Clean of whatever block. The index: At, Drop. A cache's index, slots, clock and sums, call by call. A cache: clean. The clock's Evict: may, goes (with its deferred closure). -/
import Derived.Test.YtfhfbpmlnjdfoaaGreatDoorA18
import Derived.Test.YtfhfbpmlnjdfoaaGreatDoorA20
namespace Go.Proofs.YtfhfbpmlnjdfoaaGreatDoor
open Go Go.RowKit
theorem Upd.undrew {S : Nat → Prop} {w w' : World} (h : Upd S w.drew w') : Upd S w w' := ⟨h.os, h.tape, h.output, h.size, h.block⟩
theorem Sl.setAt {w : World} {e : TypeId} {m g off n cap : Nat} {xs : List Value} (h : Sl w e m (.slice (some ⟨g, off, none⟩) n cap) n xs) (i : Nat) (hi : i < n * m) (u : Value) :
    Sl (w.setCell ⟨g, off + i, none⟩ u) e m (.slice (some ⟨g, off, none⟩) n cap) n (xs.set i u) := by
  obtain ⟨hl, ⟨h1, _⟩ | ⟨g', off', cap', cur, h1, hg, hn, hm, hs, hc⟩⟩ := h
  · cases h1
  · cases h1
    have hle : n * m ≤ cap * m := Nat.mul_le_mul_right m hn
    refine ⟨by simpa using hl, .inr ⟨g, off, cap, _, rfl, heap_setCell_same hg _ _, hn, hm, by simpa using hs, fun j x hj => ?_⟩⟩
    by_cases hji : i = j
    · subst hji
      rw [List.getElem?_set_self (by omega)] at hj
      cases hj
      rw [Array.getElem?_setIfInBounds_self, if_pos (by omega)]
    · rw [List.getElem?_set_ne hji] at hj
      rw [Array.getElem?_setIfInBounds_ne (by omega)]
      exact hc j x hj
end Go.Proofs.YtfhfbpmlnjdfoaaGreatDoor
namespace Go.Proofs.YtfhfbpmlnjdfoaaGreatDoor.EvG
open Go Go.RowKit Go.Proofs.YtfhfbpmlnjdfoaaGreatDoor
end Go.Proofs.YtfhfbpmlnjdfoaaGreatDoor.EvG
