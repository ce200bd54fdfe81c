/- slices.Grow of nil, slices.Concat of two, at []int. -/
import Derived.Test.YtmgcekpfnkcmjaaSecSl
import Derived.Lib.AppendZeros
namespace Go.Proofs.Ytmgcekpfnkcmjaa
open Go Go.RowKit

set_option maxRecDepth 100000 in
theorem grow_nil (n : Nat) (hn : n ≤ 4096) (w : World) :
    Calls Try.prog 95 #[.slice none 0 0, .int .i64 n] w fun e w' => ∃ v', e = .returned v' ∧ Sl w' 3 1 v' 0 [] ∧ From w.heap.size v' ∧ Below w.heap.size w w' := by
  obtain ⟨i0, hi0, hz0, hz1, hz2⟩ := info_parts infoI07
  by_cases h0 : n = 0
  · subst h0
    go_enter Try.func95, Try.ntmps95
    go_wp2
    go_ret
    exact ⟨_, rfl, Sl.nil _ _ _, From.nil _ _ _, Below.refl _ _⟩
  · have h63 : (n : Int) ≤ 9223372036854775807 := by omega
    have hrun := Lib.run_append_nil_zeros (P := Try.prog) w 45 3 45 3 i0 (.int .i64 0) .i64 .i64 Try.underlying45 Try.underlying3 hi0 hz0 n (by omega) (by omega) h63 (by rw [hz2]; omega)
    have hge := grownCap_ge w n 0 3
    have hle := grownCap_le_maxLen w n 0 3 (by unfold maxLen; omega)
    generalize grownCap w n 0 3 = cap at hrun hge hle
    obtain ⟨C, hC⟩ : ∃ C, C = Builtin.zeroCells (Value.int .i64 0).cells n ++ Builtin.zeroCells (Value.int .i64 0).cells (cap - n) := ⟨_, rfl⟩
    have hsz : C.size = cap := by
      rw [hC]; simp [Builtin.zeroCells, Value.cells]; omega
    rw [← hC] at hrun
    have hp : (0 : Int) < (n : Int) := by omega
    have hcap : (cap : Int) ≤ 9223372036854775807 := by unfold maxLen at hle; omega
    have HS := Lib.hid hsz
    have HL := Lib.hid hle
    clear hC hsz hle
    go_enter Try.func95, Try.ntmps95
    go_wp2_with (at_builtin; refine Lib.wpList_append_run _ rfl _ _ _ _ rfl _ _ rfl rfl _ _ hrun ?_)
    go_wp2
    go_ret
    refine ⟨_, rfl, ⟨rfl, .inr ⟨w.heap.size, 0, cap, C, rfl, heap_alloc_last _ _ rfl, by omega, HL.out, by rw [HS.out]; omega, by simp⟩⟩, ?_, ?_⟩
    · intro g hg; simp [Value.ownBlock] at hg; omega
    · exact (Below.refl _ w).trans (Upd.below (((Upd.refl _ w).drew).alloc _))

set_option maxRecDepth 100000 in
set_option maxHeartbeats 1000000 in
theorem concat_two {w : World} {gs : Nat} {va vb : Value} {fz : Nat × Nat} {la lb : List Int} (hgs : w.heap[gs]? = some (.cells #[va, vb] 45 fz))
    (ha : Rd w 1 va la.length (ints la)) (hb : Rd w 1 vb lb.length (ints lb)) (hle : la.length + lb.length ≤ 4096) :
    Calls Try.prog 75 #[.slice (some ⟨gs, 0, none⟩) 2 2] w fun e w' => ∃ v', e = .returned v' ∧ Sl w' 3 1 v' (la.length + lb.length) (ints la ++ ints lb) ∧ From w.heap.size v' ∧ Below w.heap.size w w' := by
  obtain ⟨i0, hi0, hz0, hz1, hz2⟩ := info_parts infoI07
  have HA := Lib.hid ha; have HB := Lib.hid hb
  have HG := Lib.hid hgs
  obtain ⟨aoa, ca, rfl⟩ := ha.nil_iff
  obtain ⟨aob, cb, rfl⟩ := hb.nil_iff
  have g0 := cell_of_block hgs 0
  have g1 := cell_of_block hgs 1
  simp at g0 g1
  have G := Lib.hid (And.intro g0 g1)
  clear ha hb hgs g0 g1
  go_enter Try.func75, Try.ntmps75
  go_wp2
  go_loopg [3, 11] 2 (fun g sz i wr => ∃ j : Nat, j + g = 2 ∧ i = .int .i64 j ∧ sz = .int .i64 ((if j = 0 then 0 else if j = 1 then la.length else la.length + lb.length : Nat) : Int) ∧ wr = w)
  case atStart => exact ⟨0, rfl, rfl, rfl, rfl⟩
  case round =>
    obtain ⟨j, hj, rfl, rfl, rfl⟩ := hrel
    obtain ⟨g0, g1⟩ := G.out
    rcases (by omega : j = 0 ∨ j = 1 ∨ j = 2) with rfl | rfl | rfl
    · simp only [if_true]
      have q : decide (((0 : Nat) : Int) + (la.length : Int) < 0) = false := by simp only [decide_eq_false_iff_not]; omega
      go_wp2
      go_roundg 1
      case measure => omega
      case rel => exact ⟨1, rfl, rfl, by simp, rfl⟩
    · have e1 : (if (1 : Nat) = 0 then 0 else if (1 : Nat) = 1 then la.length else la.length + lb.length) = la.length := rfl
      rw [e1]
      clear e1
      have q : decide ((la.length : Int) + (lb.length : Int) < 0) = false := by simp only [decide_eq_false_iff_not]; omega
      go_wp2
      go_roundg 0
      case measure => omega
      case rel => exact ⟨2, rfl, rfl, by simp, rfl⟩
    · have e1 : (if (2 : Nat) = 0 then 0 else if (2 : Nat) = 1 then la.length else la.length + lb.length) = la.length + lb.length := rfl
      rw [e1]
      clear e1
      go_wp2_with fail
      refine (grow_nil (la.length + lb.length) hle _).mono ?_
      rintro e w1 ⟨v1, rfl, hs1, hf1, hb1⟩
      have S1 := Lib.hid (And.intro hs1 (And.intro hf1 hb1))
      clear hs1 hf1 hb1
      obtain ⟨wb, rfl⟩ : ∃ wb : World, wb = wr := ⟨_, rfl⟩
      obtain ⟨go, hgo⟩ : ∃ x, x = gk := ⟨_, rfl⟩
      clear hgo hj
      go_wp2
      go_loopg [6, 27] 2 (fun g v i wr => ∃ j : Nat, j + g = 2 ∧ i = .int .i64 j ∧ ∃ ls : List Int, ls = (if j = 0 then [] else if j = 1 then la else la ++ lb) ∧ Sl wr 3 1 v ls.length (ints ls) ∧ From wb.heap.size v ∧ Below wb.heap.size wb wr)
      case atStart => exact ⟨0, rfl, rfl, [], rfl, S1.out.1, S1.out.2.1, S1.out.2.2⟩
      case round =>
        obtain ⟨j, hj, rfl, ls, rfl, hs, hf, hb⟩ := hrel
        have S2 := Lib.hid (And.intro hs (And.intro hf hb))
        have hblt : gs < wb.heap.size := lt_of_block HG.out
        have g0 := (hb.cell (p := ⟨gs, 0, none⟩) hblt).trans G.out.1
        have g1 := (hb.cell (p := ⟨gs, 1, none⟩) hblt).trans G.out.2
        clear hs hf hb
        rcases (by omega : j = 0 ∨ j = 1 ∨ j = 2) with rfl | rfl | rfl
        · have H1 : Hid (Sl wr 3 1 u6 ([] : List Int).length (ints [])) := S2.out.1
          go_wp2_with (at_builtin; refine wpList_append_sl rfl _ _ 45 rfl i0 (.int .i64 0) 8 Try.underlying45 hi0 hz0 hz1 hz2 rfl (by decide) rfl H1.out _ la.length (ints la) rfl (HA.out.below S2.out.2.2) (one_ints _) (by unfold maxLen; simp; omega) (by simp; omega) ?_)
          intro v2 w2 hs2 hu2 hb2
          go_wp2
          go_roundg 1
          case measure => omega
          case rel => exact ⟨1, rfl, rfl, la, rfl, by simpa using hs2, hb2.ge S2.out.2.2.size S2.out.2.1, below_upd S2.out.2.2 hu2 (Nat.le_refl _) S2.out.2.1.own⟩
        · have H1 : Hid (Sl wr 3 1 u6 la.length (ints la)) := S2.out.1
          go_wp2_with (at_builtin; refine wpList_append_sl rfl _ _ 45 rfl i0 (.int .i64 0) 8 Try.underlying45 hi0 hz0 hz1 hz2 rfl (by decide) rfl H1.out _ lb.length (ints lb) rfl (HB.out.below S2.out.2.2) (one_ints _) (by unfold maxLen; omega) (by omega) ?_)
          intro v2 w2 hs2 hu2 hb2
          go_wp2
          go_roundg 0
          case measure => omega
          case rel => exact ⟨2, rfl, rfl, la ++ lb, rfl, by simpa using hs2, hb2.ge S2.out.2.2.size S2.out.2.1, below_upd S2.out.2.2 hu2 (Nat.le_refl _) S2.out.2.1.own⟩
        · go_wp2
          go_ret
          exact ⟨_, rfl, by simpa using S2.out.1, S2.out.2.1, S2.out.2.2⟩
end Go.Proofs.Ytmgcekpfnkcmjaa
