/- The document's slots: New, Turn, All. -/
import Derived.Test.YtolhlfahoooliaaDoorSlotsIt
namespace Go.Proofs.YtolhlfahoooliaaDoor
open Go Go.RowKit

section
variable {w : World} {b : Nat} {v : Value} {l : List Int}

theorem refTurn_any (h : SlotsAt TR w b v l) (slot state : Int) :
    Calls Tryd.prog 21 #[ptrAt b, .int .i64 slot, .int .i64 state] w fun e w' => e = .returned (.int .i64 (turnCode l slot state)) ∧
      SlotsAt TR w' b v (turnList l slot state) ∧ Upd (ownS v) w w' := by
  have H := Lib.hid h
  have hc0 := cell_of_block h.str 0
  simp at hc0
  have hle := h.le
  by_cases h0 : slot < 0 ∨ (l.length : Int) ≤ slot
  · have hcode : turnCode l slot state = 10 := by simp [turnCode, h0]
    have hlist : turnList l slot state = l := by simp [turnList, hcode]
    rw [hcode, hlist]
    obtain ⟨ao, c, rfl⟩ := h.sl.rd.nil_iff
    clear h hcode hlist
    by_cases h1 : slot < 0
    · clear h0
      go_enter Tryd.func21, Tryd.ntmps21
      go_wp2
      go_ret
      exact ⟨rfl, H.out, Upd.refl _ _⟩
    · have h2 : (l.length : Int) ≤ slot := by omega
      clear h0
      go_enter Tryd.func21, Tryd.ntmps21
      go_wp2
      go_ret
      exact ⟨rfl, H.out, Upd.refl _ _⟩
  · obtain ⟨i, rfl⟩ := Int.eq_ofNat_of_zero_le (show 0 ≤ slot by omega)
    have hi : i < l.length := by omega
    have hgd : l.getD i 0 = l[i] := by simp [hi]
    by_cases h1 : stateB state = false
    · have hcode : turnCode l i state = 1 := by simp only [turnCode, if_neg h0, if_pos h1]
      have hlist : turnList l i state = l := by simp [turnList, hcode]
      rw [hcode, hlist]
      obtain ⟨ao, c, rfl⟩ := h.sl.rd.nil_iff
      have hst : state < 0 ∨ 4 < state := by simp [stateB] at h1; omega
      clear h hcode hlist h0 hgd h1
      by_cases h1 : state < 0
      · clear hst
        go_enter Tryd.func21, Tryd.ntmps21
        go_wp2
        go_ret
        exact ⟨rfl, H.out, Upd.refl _ _⟩
      · have h2 : 4 < state := by omega
        clear hst
        go_enter Tryd.func21, Tryd.ntmps21
        go_wp2
        go_ret
        exact ⟨rfl, H.out, Upd.refl _ _⟩
    · have h1' : 0 ≤ state ∧ state ≤ 4 := by simp [stateB] at h1; exact h1
      obtain ⟨g, off, cap, rfl, hc, hf⟩ := h.at hi
      by_cases h2 : mayB l[i] state = false
      · have hcode : turnCode l i state = 16 := by simp only [turnCode, if_neg h0, if_neg h1, Int.toNat_natCast, hgd, if_pos h2]
        have hlist : turnList l i state = l := by simp [turnList, hcode]
        rw [hcode, hlist]
        have H2 := Lib.hid h2
        clear h hcode hlist h0 hgd h1 h2
        go_enter Tryd.func21, Tryd.ntmps21
        go_wp2_with fail
        refine (refMay_any _ _ _).mono ?_
        rintro e w' ⟨rfl, rfl⟩
        rw [H2.out]
        go_wp2
        go_ret
        exact ⟨rfl, H.out, Upd.refl _ _⟩
      · have h2' : mayB l[i] state = true := by simpa using h2
        have hcode : turnCode l i state = 0 := by simp only [turnCode, if_neg h0, if_neg h1, Int.toNat_natCast, hgd, if_neg h2]
        have hlist : turnList l i state = l.set i state := by simp only [turnList, hcode, if_true, Int.toNat_natCast]
        rw [hcode, hlist]
        have H2 := Lib.hid h2'
        have HF := Lib.hid (H.out.set i hi state)
        clear h hcode hlist h0 hgd h1 h2 h2'
        go_enter Tryd.func21, Tryd.ntmps21
        go_wp2_with fail
        refine (refMay_any _ _ _).mono ?_
        rintro e w' ⟨rfl, rfl⟩
        rw [H2.out]
        go_wp2
        go_ret
        exact ⟨rfl, HF.out.1, HF.out.2⟩

theorem refAll_any (h : SlotsAt TR w b v l) (st : Int) :
    Calls Tryd.prog 23 #[ptrAt b, .int .i64 st] w fun e w' => ∃ v', e = .returned v' ∧ Sl w' 3 1 v' (pos l st).length (ints (nats (pos l st))) ∧ From w.heap.size v' ∧ Below w.heap.size w w' := by
  obtain ⟨i0, hi, hz0, hz1, hz2⟩ := info_parts infoI
  have H := Lib.hid h
  have hle := h.le
  obtain ⟨ao, c, rfl⟩ := h.sl.rd.nil_iff
  clear h
  go_enter Tryd.func23, Tryd.ntmps23
  go_wp2
  go_loopg [5, 6] l.length (fun g o i wr => ∃ k : Nat, k + g = l.length ∧ i = .int .i64 k ∧ Sl wr 3 1 o (posTo l st k).length (ints (nats (posTo l st k))) ∧ From w.heap.size o ∧ Below w.heap.size w wr)
  case atStart => exact ⟨0, by omega, rfl, by simpa [posTo, nats] using Sl.nil _ _ _, From.nil _ _ _, Below.refl _ _⟩
  case round =>
    obtain ⟨k, hk, rfl, hs, hf, hb⟩ := hrel
    have hh := H.out.new (Upd.of_below hb)
    have hc0 := cell_of_block hh.str 0
    simp at hc0
    have hpk := posTo_len l st k
    obtain ⟨oo, oc, rfl⟩ := hs.rd.nil_iff
    replace hf := hf.len (n' := (posTo l st k).length) (c' := oc)
    by_cases hlt : k < l.length
    · obtain ⟨g, off, cap, hvv, hc, _⟩ := hh.at hlt
      cases hvv
      clear hh
      have HF := Lib.hid hf
      clear hf
      by_cases hq : (l[k] == st) = true
      · have HN : Hid (posTo l st (k + 1) = posTo l st k ++ [k]) := posTo_hit (by simpa [hlt] using hq)
        go_wp2_with (at_builtin; refine wpList_append_one rfl _ _ 34 rfl i0 (.int .i64 0) 8 Tryd.underlying34 hi hz0 hz1 hz2 rfl (by decide) rfl hs [.int .i64 k] rfl rfl (by simp [Value.oneCell']) (by unfold maxLen; omega) (by omega) ?_)
        intro v' w3 hs3 hu3 hb3
        have hown3 := hb3.ge hb.size HF.out
        have hbb3 := below_upd hb hu3 (Nat.le_refl _) HF.out.own
        go_wp2
        go_roundg (gk - 1)
        case measure => omega
        case rel => exact ⟨k + 1, by omega, by go_num, by rw [HN.out, List.length_append]; simpa [nats, ints] using hs3, hown3, hbb3⟩
      · have hq' : (l[k] == st) = false := by simpa using hq
        have HN : Hid (posTo l st (k + 1) = posTo l st k) := posTo_miss (by simpa [hlt] using hq')
        clear hq
        go_wp2
        go_roundg (gk - 1)
        case measure => omega
        case rel => exact ⟨k + 1, by omega, by go_num, by rw [HN.out]; exact hs, by rw [HN.out] at *; exact HF.out, hb⟩
    · obtain rfl : k = l.length := by omega
      clear hh
      go_wp2
      go_ret
      exact ⟨_, rfl, hs, hf, hb⟩

theorem refNew_ok (n : Nat) (w : World) (hn : n ≤ 1024) :
    Calls Tryd.prog 19 #[.int .i64 n] w fun e w' => ∃ b v, e = .returned (ptrAt b) ∧ SlotsAt TR w' b v (List.replicate n 0) ∧ w.heap.size ≤ b ∧ From w.heap.size v ∧ Below w.heap.size w w' := by
  obtain ⟨i0, hi, hz0, hz1, hz2⟩ := info_parts infoI
  go_enter Tryd.func19, Tryd.ntmps19
  go_wp2
  go_loopg [4] n (fun g i wr => ∃ (k : Nat) (v : Value), k + g = n ∧ i = .int .i64 k ∧ SlotsAt TR wr w.heap.size v (List.replicate k 0) ∧ From w.heap.size v ∧ Below w.heap.size w wr)
  case atStart =>
    refine ⟨0, .slice none 0 0, by omega, rfl, ⟨heap_alloc_last _ _ rfl, by simpa using Sl.nil _ _ _, by simp [Value.ownBlock], by simp⟩, From.nil _ _ _, (Below.refl _ _).alloc (Nat.le_refl _) _⟩
  case round =>
    obtain ⟨k, v, hk, rfl, hs, hf, hb⟩ := hrel
    have hc0 := cell_of_block hs.str 0
    have hf0 := frozen_of_block hs.str 0
    simp at hc0
    by_cases hlt : k < n
    · obtain ⟨oo, oc, rfl⟩ := hs.sl.rd.nil_iff
      have hsl := hs.sl
      have HF := Lib.hid hf
      have HS := Lib.hid hs
      clear hs hf
      simp only [List.length_replicate] at hsl hc0
      go_wp2_with (at_builtin; refine wpList_append_one rfl _ _ 34 rfl i0 (.int .i64 0) 8 Tryd.underlying34 hi hz0 hz1 hz2 rfl (by decide) rfl hsl [.int .i64 0] rfl rfl (by simp [Value.oneCell']) (by unfold maxLen; omega) (by omega) ?_)
      intro v' w3 hs3 hu3 hb3
      have hown3 := hb3.ge hb.size (HF.out.len (n' := k) (c' := oc))
      have hne : v'.ownBlock ≠ some w.heap.size := by
        intro e
        rcases hb3 with hb3 | ⟨g', hb3, hge⟩
        · exact HS.out.ne (by
            have e2 : (Value.slice oo (List.replicate k (0 : Int)).length oc).ownBlock = (Value.slice oo k oc).ownBlock := by cases oo <;> rfl
            rw [e2, ← hb3]; exact e)
        · rw [hb3] at e; cases e
          have := lt_of_block HS.out.str; omega
      have hst : w3.heap[w.heap.size]? = _ := (hu3.block _ (lt_of_block HS.out.str) (fun e => HS.out.ne (by
            have e2 : (Value.slice oo (List.replicate k (0 : Int)).length oc).ownBlock = (Value.slice oo k oc).ownBlock := by cases oo <;> rfl
            rw [e2]; exact e))).trans HS.out.str
      obtain ⟨o3, c3, rfl⟩ := hs3.rd.nil_iff
      have hc1 := cell_of_block hst 0
      have hf1 := frozen_of_block hst 0
      simp at hc1
      have HST := Lib.hid hst
      clear hst
      go_wp2
      go_roundg (gk - 1)
      case measure => omega
      case rel =>
        have hbb := below_upd (below_upd hb hu3 (Nat.le_refl _) (HF.out.len (n' := k) (c' := oc)).own) (upd_setCell w3 w.heap.size 0 (.slice o3 (k + 1) c3)) (Nat.le_refl _) (fun j e => by omega)
        refine ⟨k + 1, _, by omega, by go_num, ⟨by simpa using heap_setCell_same HST.out 0 (.slice o3 (k + 1) c3), ?_, hne, by simp; omega⟩, hown3, hbb⟩
        have h4 := hs3.keep_ne (upd_setCell w3 w.heap.size 0 (.slice o3 (k + 1) c3)) hne
        rw [List.length_replicate, List.replicate_succ', ints_append]
        exact h4
    · obtain rfl : k = n := by omega
      go_wp2
      go_ret
      exact ⟨_, v, rfl, hs, Nat.le_refl _, hf, hb⟩
end
end Go.Proofs.YtolhlfahoooliaaDoor
