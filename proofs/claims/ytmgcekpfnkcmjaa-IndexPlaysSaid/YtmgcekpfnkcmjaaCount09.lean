/- The document's Count; New of bad sizes. -/
import Derived.Test.YtmgcekpfnkcmjaaSeen09
import Derived.Test.YtmgcekpfnkcmjaaRef09c
namespace Go.Proofs.Ytmgcekpfnkcmjaa
open Go Go.RowKit

set_option maxRecDepth 100000 in
theorem inew_bad (n s : Int) (w : World) (h : n < 1 ∨ 4096 < n ∨ s < 1 ∨ 1024 < s) :
    Calls Try.prog 13 #[.int .i64 n, .int .i64 s] w fun e w' => e = .returned (.tuple #[.pointer none, .int .i64 24]) ∧ w' = w := by
  have h' : n < 1 ∨ (¬ n < 1 ∧ ((4096 : Int) < n ∨ (¬ (4096 : Int) < n ∧ (s < 1 ∨ (¬ s < 1 ∧ (1024 : Int) < s))))) := by omega
  clear h
  obtain h1 | ⟨h1, h2 | ⟨h2, h3 | ⟨h3, h4⟩⟩⟩ := h'
  all_goals
    go_enter Try.func13, Try.ntmps13
    go_wp2
    go_ret2
    exact ⟨rfl, rfl⟩

set_option maxHeartbeats 1000000 in
theorem rcount_any {w : World} {b : Nat} {vs vd : Value} {ps : List (Int × Bool)} {slots : Nat} (h : RefAt w b vs vd ps slots) (hg : Good ps slots) :
    Calls Try.prog 57 #[.pointer (some ⟨b, 0, none⟩)] w fun e w' => e = .returned (.tuple #[.int .i64 ((visTo ps 0 ps.length).length : Int), .int .i64 (cntD (visTo ps 0 ps.length) : Int)]) ∧ w' = w := by
  have g0 := cell_of_block h.str 0
  have g1 := cell_of_block h.str 1
  simp at g0 g1
  have hle := h.le
  obtain ⟨ao, c, rfl⟩ := h.ss.rd.nil_iff
  obtain ⟨eo, ec, rfl⟩ := h.ds.rd.nil_iff
  have H := Lib.hid h
  clear h
  go_enter Try.func57, Try.ntmps57
  go_wp2
  go_loopg [4, 5, 6] ps.length (fun g n d i wr => ∃ k : Nat, k + g = ps.length ∧ n = .int .i64 ((visTo ps 0 k).length : Int) ∧ d = .int .i64 (cntD (visTo ps 0 k) : Int) ∧ i = .int .i64 k ∧ wr = w)
  case atStart => exact ⟨0, by omega, rfl, rfl, rfl, rfl⟩
  case round =>
    obtain ⟨k, hk, rfl, rfl, rfl, rfl⟩ := hrel
    have hnl : ((visTo ps 0 k).length : Int) ≤ 4096 := by have := visTo_len ps 0 k; omega
    have hdl : (cntD (visTo ps 0 k) : Int) ≤ 4096 := by have := visTo_len ps 0 k; have := cntD_le (visTo ps 0 k); omega
    by_cases hlt : k < ps.length
    · obtain ⟨gs, os, cs, gd, od, cd, hv1, hv2, ⟨p0, _⟩, ⟨p1, _⟩, _, _⟩ := H.out.at hlt
      cases hv1; cases hv2
      rcases hg.each k hlt with hp | ⟨hp0, hp1⟩
      · have HM : Hid (visTo ps 0 (k + 1) = visTo ps 0 k) := visTo_miss hlt hp
        rw [hp] at p0 p1
        clear hp
        go_wp2
        go_roundg (gk - 1)
        case measure => omega
        case rel => exact ⟨k + 1, by omega, by rw [HM.out], by rw [HM.out], by go_num, rfl⟩
      · have hne : ps[k] ≠ (-1, false) := fun e => by rw [e] at hp0; simp at hp0
        have hv := visTo_hit (fr := 0) hlt hne
        obtain ⟨s, d, hsd⟩ : ∃ s d, ps[k] = (s, d) := ⟨_, _, rfl⟩
        rw [hsd] at p0 p1 hp0 hv
        have hs0 : ¬ s < 0 := by simpa using hp0
        have HV := Lib.hid hv
        simp only at p0 p1 hp0
        clear hp1 hne hv hsd
        cases d
        all_goals
          go_wp2
          go_roundg (gk - 1)
          case measure => omega
          case rel =>
            refine ⟨k + 1, by omega, ?_, ?_, by go_num, rfl⟩
            · rw [HV.out]; simp
            · rw [HV.out, cntD_snoc]; simp
    · obtain rfl : k = ps.length := by omega
      go_wp2
      go_ret2
      exact ⟨rfl, rfl⟩
end Go.Proofs.Ytmgcekpfnkcmjaa
