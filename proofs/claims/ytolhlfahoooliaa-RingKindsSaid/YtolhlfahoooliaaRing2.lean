/- The ring of ints: Close, Closed, Len, Room, Drain. -/
import Derived.Test.YtolhlfahoooliaaRing
import Derived.Test.YtolhlfahoooliaaInts
import Derived.WalkMore
namespace Go.Proofs.Ytolhlfahoooliaa
open Go Go.Conc Go.RowKit

theorem ring_nil (w : World) :
    (Calls Try.prog 19 #[.pointer none] w fun e w' => e = .returned (.int .i64 2) ∧ w' = w) ∧
    (Calls Try.prog 27 #[.pointer none] w fun e w' => e = .returned (.bool false) ∧ w' = w) ∧
    (Calls Try.prog 23 #[.pointer none] w fun e w' => e = .returned (.int .i64 0) ∧ w' = w) ∧
    (Calls Try.prog 22 #[.pointer none] w fun e w' => e = .returned (.int .i64 0) ∧ w' = w) := by
  refine ⟨?_, ?_, ?_, ?_⟩
  · go_enter Try.func19, Try.ntmps19
    go_wp2
    go_ret
    exact ⟨rfl, rfl⟩
  · go_enter Try.func27, Try.ntmps27
    go_wp2
    go_ret
    exact ⟨rfl, rfl⟩
  · go_enter Try.func23, Try.ntmps23
    go_wp2
    go_ret
    exact ⟨rfl, rfl⟩
  · go_enter Try.func22, Try.ntmps22
    go_wp2
    go_ret
    exact ⟨rfl, rfl⟩

section
variable {b c cap : Nat} {xs : List Value} {closed : Bool} {w : World}

theorem closed_any (h : RingAt 76 w b c cap xs closed) :
    Calls Try.prog 27 #[ringPtr b] w fun e w' => e = .returned (.bool closed) ∧ w' = w := by
  have hc1 := cell_of_block h.str 1
  simp at hc1
  clear h
  go_enter Try.func27, Try.ntmps27
  go_wp2
  go_ret
  exact ⟨rfl, rfl⟩

theorem len_any (h : RingAt 76 w b c cap xs closed) :
    Calls Try.prog 23 #[ringPtr b] w fun e w' => e = .returned (.int .i64 xs.length) ∧ w' = w := by
  have hc0 := cell_of_block h.str 0
  simp at hc0
  obtain ⟨s, r, hch⟩ := h.chan
  have hlen := fun ty => run_len_chan (P := Try.prog) 74 ty Try.underlying74 hch
  clear h hch
  go_enter Try.func23, Try.ntmps23
  go_wp2
  go_ret
  exact ⟨by simp [goInt], rfl⟩

def roomOf (closed : Bool) (xs : List Value) (cap : Nat) : Int := if closed then 0 else cap - xs.length

theorem room_any (h : RingAt 76 w b c cap xs closed) (hcap : cap ≤ 1024) :
    Calls Try.prog 22 #[ringPtr b] w fun e w' => e = .returned (.int .i64 (roomOf closed xs cap)) ∧ ∃ k, w' = w.drewN k := by
  have hc0 := cell_of_block h.str 0
  have hc1 := cell_of_block h.str 1
  simp at hc0 hc1
  obtain ⟨s, r, hch⟩ := h.chan
  have hle := h.le
  have hlen := fun ty (n : Nat) => run_len_chan (P := Try.prog) (w := w.drewN n) 74 ty Try.underlying74 hch
  have hcapr := fun ty (n : Nat) => run_cap_chan (P := Try.prog) (w := w.drewN n) 74 ty Try.underlying74 hch
  clear h hch
  cases closed with
  | true =>
    go_enter Try.func22, Try.ntmps22
    go_wp2
    go_ret
    exact ⟨by simp [roomOf], 0, rfl⟩
  | false =>
    go_enter Try.func22, Try.ntmps22
    go_wp2
    go_quiet (fail)
    go_wp2
    go_ret
    exact ⟨by simp [roomOf], _, rfl⟩

theorem close_any (h : RingAt 76 w b c cap xs closed) :
    Calls Try.prog 19 #[ringPtr b] w fun e w' => e = .returned (.int .i64 (if closed then 16 else 0)) ∧
      RingAt 76 w' b c cap xs true ∧ Upd (bc b c) w w' := by
  have hc0 := cell_of_block h.str 0
  have hc1 := cell_of_block h.str 1
  have hf1 := frozen_of_block h.str 1
  simp at hc0 hc1
  cases closed with
  | true =>
    have H := Lib.hid h; clear h
    go_enter Try.func19, Try.ntmps19
    go_wp2
    go_ret
    exact ⟨rfl, H.out, Upd.refl _ _⟩
  | false =>
    obtain ⟨hs, ⟨s, r, hch⟩, hne, hle⟩ := h
    have hcl := fun ats ty => run_close_open (P := Try.prog) (w := w.setCell ⟨b, 1, none⟩ (.bool true)) ats ty (by rw [Below.heap_setCell _ _ _ _ (by simpa using hne.symm)]; exact hch)
    have HS := Lib.hid hs; clear hs
    have HC := Lib.hid hch; clear hch
    go_enter Try.func19, Try.ntmps19
    go_wp2
    go_ret
    refine ⟨rfl, ⟨?_, ⟨s, r, ?_⟩, hne, hle⟩, ⟨rfl, rfl, rfl, by simp, ?_⟩⟩
    · show ((w.setCell ⟨b, 1, none⟩ (.bool true)).heap.setIfInBounds c _)[b]? = _
      rw [Array.getElem?_setIfInBounds_ne hne.symm]
      exact heap_setCell_same HS.out 1 _
    · show ((w.setCell ⟨b, 1, none⟩ (.bool true)).heap.setIfInBounds c _)[c]? = _
      rw [Array.getElem?_setIfInBounds_self]
      rw [if_pos (by simpa using lt_of_block HC.out)]
    · intro k _ hk
      show ((w.setCell ⟨b, 1, none⟩ (.bool true)).heap.setIfInBounds c _)[k]? = _
      rw [Array.getElem?_setIfInBounds_ne (fun e => hk (.inr e.symm)), Below.heap_setCell _ _ _ _ (fun e => hk (.inl e))]

theorem infoInt : (Try.prog.info? 3).map (fun i => (i.zero, i.size, i.bytes)) = some (some (.int .i64 0), 1, 8) := by kernel_rfl

theorem drain_nil (w : World) : Calls Try.prog 24 #[.pointer none] w fun e w' => e = .returned (.slice none 0 0) ∧ w' = w := by
  go_enter Try.func24, Try.ntmps24
  go_wp2
  go_step3
  go_wp2
  go_step3
  go_wp2
  go_loopg [3] 1 (fun _ v wr => v = .slice none 0 0 ∧ wr = w)
  case atStart => exact ⟨rfl, rfl⟩
  case round =>
    obtain ⟨rfl, rfl⟩ := hrel
    go_wp2_with (go_at_call 20; refine (take_nil _).mono ?_; rintro e w' ⟨rfl, rfl⟩)
    rw [Exit.noGoto_ret]
    go_ret
    exact ⟨rfl, rfl⟩

theorem drain_any {l : List Int} (h : RingAt 76 w b c cap (ints l) closed) (hcap : cap ≤ 1024) :
    Calls Try.prog 24 #[ringPtr b] w fun e w' => ∃ v, e = .returned v ∧ Sl w' 3 1 v l.length (ints l) ∧ From w.heap.size v ∧
      RingAt 76 w' b c cap [] closed ∧ Upd (bc b c) w w' := by
  obtain ⟨i0, hi, hz0, hz1, hz2⟩ := info_parts infoInt
  have hle : l.length ≤ 1024 := by have := h.le; simp at this; omega
  have hb := lt_of_block h.str
  have hcl : c < w.heap.size := by obtain ⟨s, r, hch⟩ := h.chan; exact lt_of_block hch
  have H := Lib.hid h; clear h
  go_enter Try.func24, Try.ntmps24
  go_wp2
  go_step3
  go_wp2
  go_step3
  go_wp2
  go_loopg [3] (l.length + 1) (fun k v wr => ∃ j, j ≤ l.length ∧ k + j = l.length + 1 ∧ Sl wr 3 1 v j (ints (l.take j)) ∧ From w.heap.size v ∧
     RingAt 76 wr b c cap (ints (l.drop j)) closed ∧ Upd (bc b c) w wr)
  case atStart => exact ⟨0, by omega, by omega, by simpa using Sl.nil _ _ _, From.nil _ _ _, by simpa using H.out, Upd.refl _ _⟩
  case round =>
    obtain ⟨j, hj, hk, hsl, hown, hr, hu⟩ := hrel
    have HO := hown; clear hown
    by_cases hlt : j < l.length
    · rw [List.drop_eq_getElem_cons hlt, ints_cons] at hr
      have ht := Lib.hid (List.take_succ_eq_append_getElem hlt)
      go_wp2_with fail
      refine (take_some hr).mono ?_
      rintro e w' ⟨rfl, hr', hu'⟩
      have hsl' := hsl.keep_lt HO hu' (bc_lt hb hcl)
      go_wp2_with (at_builtin; refine wpList_append_one rfl _ _ 42 rfl i0 (.int .i64 0) 8 Try.underlying42 hi hz0 hz1 hz2 rfl (by decide) rfl hsl' [.int .i64 l[j]] rfl rfl (by simp [Value.oneCell']) (by unfold maxLen; omega) (by omega) ?_)
      intro v' w2 hs2 hu2 hb2
      have hr2 := hr'.keep_from hu2 hb hcl HO.own
      go_wp2
      go_roundg (gk - 1)
      case measure => omega
      case rel =>
        refine ⟨j + 1, by omega, by omega, ?_, hb2.ge (Nat.le_trans hu.size hu'.size) HO, hr2, ?_⟩
        · rw [ht.out, ints_append]; exact hs2
        · exact ((hu.trans hu')).new hu2 (fun i hi hg => by have := HO _ hg; omega)
    · obtain rfl : j = l.length := by omega
      rw [List.drop_length, ints_nil] at hr
      rw [List.take_length] at hsl
      go_wp2_with fail
      refine (take_none hr).mono ?_
      rintro e w' ⟨rfl, hr', hu'⟩
      have hsl' := hsl.keep_lt HO hu' (bc_lt hb hcl)
      go_wp2
      rw [Exit.noGoto_ret]
      go_ret
      exact ⟨_, rfl, hsl', HO, hr', hu.trans hu'⟩
end
end Go.Proofs.Ytolhlfahoooliaa
