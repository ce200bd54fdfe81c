/- The document's index: Put, Drop, Clean, New. -/
import Derived.Test.YtmgcekpfnkcmjaaRef09
namespace Go.Proofs.Ytmgcekpfnkcmjaa
open Go Go.RowKit

section
variable {w : World} {b : Nat} {vs vd : Value} {ps : List (Int × Bool)} {slots : Nat}

set_option maxHeartbeats 1000000 in
theorem rput_ok (h : RefAt w b vs vd ps slots) (k : Nat) (s : Int) (d : Bool) (hk : k < ps.length) (h0 : 0 ≤ s) (h1 : s < slots) (hm : mayPut ps k s) :
    Calls Try.prog 49 #[.pointer (some ⟨b, 0, none⟩), .int .i64 k, .int .i64 s, .bool d] w fun e w' => e = .returned (.tuple #[.int .i64 ps[k].1, .bool ps[k].2, .int .i64 0]) ∧
      RefAt w' b vs vd (ps.set k (s, d)) slots ∧ Upd (rS vs vd) w w' := by
  have hr := Lib.hid (right_any h k)
  have ha := Lib.hid (rat_any h s)
  have e1 : decide (0 ≤ (k : Int) ∧ (k : Int) < ps.length) = true := by simp; omega
  rw [e1] at hr
  have hle := h.le
  have hsl := h.sl1
  have g0 := cell_of_block h.str 0
  have g1 := cell_of_block h.str 1
  have g2 := cell_of_block h.str 2
  simp at g0 g1 g2
  obtain ⟨gs, os, cs, gd, od, cd, rfl, rfl, ⟨p0, f0⟩, ⟨p1, f1⟩, l0, l1⟩ := h.at hk
  have HP := Lib.hid (h.put k hk s d)
  have hgb : gs ≠ b := fun e => h.ns (by rw [e]; rfl)
  have hgd : gs ≠ gd := fun e => h.dd gs rfl (by rw [e]; rfl)
  have q1 : (w.setCell ⟨gs, os + k, none⟩ (.int .i64 s)).cell? ⟨b, 1, none⟩ = some (.slice (some ⟨gd, od, none⟩) ps.length cd) := ((upd_setCell w gs (os + k) (.int .i64 s)).cellAt h.blt (fun e => hgb e.symm)).trans g1
  have q2 : (w.setCell ⟨gs, os + k, none⟩ (.int .i64 s)).cell? ⟨gd, od + k, none⟩ = some (.bool ps[k].2) := ((upd_setCell w gs (os + k) (.int .i64 s)).cellAt l1 (fun e => hgd e.symm)).trans p1
  have q3 : (w.setCell ⟨gs, os + k, none⟩ (.int .i64 s)).frozen? ⟨gd, od + k, none⟩ = false := ((upd_setCell w gs (os + k) (.int .i64 s)).frozenAt l1 (fun e => hgd e.symm)).trans f1
  obtain ⟨o, hoe⟩ : ∃ o, o = atI ps s := ⟨_, rfl⟩
  have hoc : o = -1 ∨ o = (k : Int) := by
    rw [hoe]; unfold atI
    rcases hm with e | e <;> rw [e] <;> simp
  rw [← hoe] at ha
  have x1 : ¬ s < 0 := by omega
  have x2 : ¬ (slots : Int) ≤ s := by omega
  clear hoe h hm hgb hgd e1 h0 h1 l0 l1
  rcases hoc with rfl | rfl
  all_goals
    go_enter Try.func49, Try.ntmps49
    go_wp2_with fail
    refine hr.out.mono ?_
    rintro e w1 ⟨rfl, rfl⟩
    go_wp2_with fail
    refine ha.out.mono ?_
    rintro e w2 ⟨rfl, rfl⟩
    go_wp2
    refine bodyPost_ret (v := .tuple #[.int .i64 ps[k].1, .bool ps[k].2, .int .i64 0]) ?_ rfl ⟨rfl, HP.out.1, HP.out.2⟩
    simp [results, Try.results49, go_sem]

theorem rput_out (h : RefAt w b vs vd ps slots) (k s : Int) (d : Bool) (ho : k < 0 ∨ (ps.length : Int) ≤ k ∨ s < 0 ∨ (slots : Int) ≤ s) :
    Calls Try.prog 49 #[.pointer (some ⟨b, 0, none⟩), .int .i64 k, .int .i64 s, .bool d] w fun e w' => e = .returned (.tuple #[.int .i64 0, .bool false, .int .i64 10]) ∧ w' = w := by
  have hr := right_any h k
  have g2 := cell_of_block h.str 2
  simp at g2
  have hsl := h.sl1
  obtain ⟨r, hre⟩ : ∃ r, r = decide (0 ≤ k ∧ k < ps.length) := ⟨_, rfl⟩
  have hrc : r = false ∨ (r = true ∧ s < 0) ∨ (r = true ∧ ¬ s < 0 ∧ (slots : Int) ≤ s) := by
    rw [hre]
    by_cases hk : 0 ≤ k ∧ k < ps.length
    · right; simp only [hk, and_self, decide_true, true_and]; omega
    · left; simp; omega
  rw [← hre] at hr
  have HR := Lib.hid hr
  clear hre h ho hr
  rcases hrc with rfl | ⟨rfl, h1⟩ | ⟨rfl, h1, h2⟩
  all_goals
    go_enter Try.func49, Try.ntmps49
    go_wp2_with fail
    refine HR.out.mono ?_
    rintro e w1 ⟨rfl, rfl⟩
    go_wp2
    refine bodyPost_ret (v := .tuple #[.int .i64 0, .bool false, .int .i64 10]) ?_ rfl ⟨rfl, rfl⟩
    simp [results, Try.results49, go_sem]

theorem rput_there (h : RefAt w b vs vd ps slots) (k : Nat) (s : Int) (d : Bool) (hk : k < ps.length) (h0 : 0 ≤ s) (h1 : s < slots) (hm : ¬ mayPut ps k s) :
    Calls Try.prog 49 #[.pointer (some ⟨b, 0, none⟩), .int .i64 k, .int .i64 s, .bool d] w fun e w' => e = .returned (.tuple #[.int .i64 0, .bool false, .int .i64 15]) ∧ w' = w := by
  have hr := Lib.hid (right_any h k)
  have ha := Lib.hid (rat_any h s)
  have e1 : decide (0 ≤ (k : Int) ∧ (k : Int) < ps.length) = true := by simp; omega
  rw [e1] at hr
  have g2 := cell_of_block h.str 2
  simp at g2
  have hsl := h.sl1
  have hle := h.le
  obtain ⟨o, ho, hok⟩ : ∃ o : Nat, atI ps s = o ∧ ¬ (o : Int) = k := by
    unfold atI
    cases e : atOf ps s with
    | none => exact absurd (.inl e) hm
    | some o => exact ⟨o, rfl, fun e2 => hm (.inr (by rw [e]; congr 1; omega))⟩
  rw [ho] at ha
  have hob : ((o : Int) == (k : Int)) = false := by simpa using hok
  have x1 : ¬ s < 0 := by omega
  have x2 : ¬ (slots : Int) ≤ s := by omega
  clear h hm ho hok e1 h0 h1
  go_enter Try.func49, Try.ntmps49
  go_wp2_with fail
  refine hr.out.mono ?_
  rintro e w1 ⟨rfl, rfl⟩
  go_wp2_with fail
  refine ha.out.mono ?_
  rintro e w2 ⟨rfl, rfl⟩
  go_wp2
  refine bodyPost_ret (v := .tuple #[.int .i64 0, .bool false, .int .i64 15]) ?_ rfl ⟨rfl, rfl⟩
  simp [results, Try.results49, go_sem]

/-- Put, of whatever block. -/
theorem rput_any (h : RefAt w b vs vd ps slots) (k s : Int) (d : Bool) :
    Calls Try.prog 49 #[.pointer (some ⟨b, 0, none⟩), .int .i64 k, .int .i64 s, .bool d] w fun e w' => e = .returned (.tuple #[.int .i64 (putV ps slots k s).1, .bool (putV ps slots k s).2, .int .i64 (putC ps slots k s)]) ∧
      RefAt w' b vs vd (putL ps slots k s d) slots ∧ Upd (rS vs vd) w w' := by
  by_cases ho : k < 0 ∨ (ps.length : Int) ≤ k ∨ s < 0 ∨ (slots : Int) ≤ s
  · have e : putC ps slots k s = 10 := by unfold putC; rw [if_pos ho]
    simp only [putV, putL, e, if_neg (show ¬ (10 : Int) = 0 by decide)]
    exact (rput_out h k s d ho).mono fun e w' ⟨he, hb⟩ => by subst hb; exact ⟨he, h, Upd.refl _ _⟩
  · obtain ⟨n, rfl⟩ : ∃ n : Nat, k = n := ⟨k.toNat, by omega⟩
    have hn : n < ps.length := by omega
    by_cases hm : mayPut ps n s
    · have e : putC ps slots n s = 0 := by
        unfold putC
        rw [if_neg ho, if_pos (by simpa [mayPut] using hm)]
      simp only [putV, putL, e, if_true, Int.toNat_natCast, getD_at hn]
      exact rput_ok h n s d hn (by omega) (by omega) hm
    · have e : putC ps slots n s = 15 := by
        unfold putC
        rw [if_neg ho, if_neg (by simpa [mayPut] using hm)]
      simp only [putV, putL, e, if_neg (show ¬ (15 : Int) = 0 by decide)]
      exact (rput_there h n s d hn (by omega) (by omega) hm).mono fun e w' ⟨he, hb⟩ => by subst hb; exact ⟨he, h, Upd.refl _ _⟩

theorem getC_cases {ps : List (Int × Bool)} {slots : Nat} (h : Good ps slots) (k : Int) : ((k < 0 ∨ (ps.length : Int) ≤ k) ∧ getC ps k = 10) ∨ (∃ (n : Nat) (hn : n < ps.length), k = n ∧ ps[n] = (-1, false) ∧ getC ps k = 14) ∨ (∃ (n : Nat) (hn : n < ps.length), k = n ∧ 0 ≤ ps[n].1 ∧ getC ps k = 0 ∧ getV ps k = ps[n]) := by
  by_cases hc : getC ps k = 0
  · obtain ⟨n, hn, e, h0, _, hv⟩ := getC_zero h hc
    exact .inr (.inr ⟨n, hn, e, h0, hc, hv⟩)
  · by_cases ho : k < 0 ∨ (ps.length : Int) ≤ k
    · exact .inl ⟨ho, by unfold getC; rw [if_pos ho]⟩
    · obtain ⟨n, rfl⟩ : ∃ n : Nat, k = n := ⟨k.toNat, by omega⟩
      have hn : n < ps.length := by omega
      unfold getC at hc ⊢
      rw [if_neg ho] at hc
      simp only [Int.toNat_natCast, getD_at hn] at hc ⊢
      by_cases e : ps[n] = (-1, false)
      · exact .inr (.inl ⟨n, hn, rfl, e, by simp only [if_neg ho, if_pos e]⟩)
      · rw [if_neg e] at hc; exact absurd rfl hc

set_option maxHeartbeats 1000000 in
theorem rdrop_any (h : RefAt w b vs vd ps slots) (hgood : Good ps slots) (k : Int) :
    Calls Try.prog 51 #[.pointer (some ⟨b, 0, none⟩), .int .i64 k] w fun e w' => e = .returned (.tuple #[.int .i64 (getV ps k).1, .bool (getV ps k).2, .int .i64 (getC ps k)]) ∧
      RefAt w' b vs vd (dropL ps k) slots ∧ Upd (rS vs vd) w w' := by
  have hr := right_any h k
  have H := Lib.hid h
  have hle := h.le
  have g0 := cell_of_block h.str 0
  have g1 := cell_of_block h.str 1
  simp at g0 g1
  rcases getC_cases hgood k with ⟨ho, hc⟩ | ⟨n, hn, rfl, hp, hc⟩ | ⟨n, hn, rfl, hp, hc, hv⟩
  · have hL : dropL ps k = ps := by simp [dropL, hc]
    rw [hL, hc, getV_bad (by rw [hc]; decide)]
    rw [decide_eq_false (by omega)] at hr
    have HR := Lib.hid hr
    clear h ho hc hL hr g0 g1
    go_enter Try.func51, Try.ntmps51
    go_wp2_with fail
    refine HR.out.mono ?_
    rintro e w1 ⟨rfl, rfl⟩
    go_wp2
    refine bodyPost_ret (v := .tuple #[.int .i64 0, .bool false, .int .i64 10]) ?_ rfl ⟨rfl, H.out, Upd.refl _ _⟩
    simp [results, Try.results51, go_sem]
  · have hL : dropL ps n = ps := by simp [dropL, hc]
    rw [hL, hc, getV_bad (by rw [hc]; decide)]
    rw [decide_eq_true (by omega)] at hr
    have HR := Lib.hid hr
    obtain ⟨gs, os, cs, gd, od, cd, rfl, rfl, ⟨p0, f0⟩, ⟨p1, f1⟩, l0, l1⟩ := h.at hn
    rw [hp] at p0
    clear h hc hL hr hp p1 f1
    go_enter Try.func51, Try.ntmps51
    go_wp2_with fail
    refine HR.out.mono ?_
    rintro e w1 ⟨rfl, rfl⟩
    go_wp2
    refine bodyPost_ret (v := .tuple #[.int .i64 0, .bool false, .int .i64 14]) ?_ rfl ⟨rfl, H.out, Upd.refl _ _⟩
    simp [results, Try.results51, go_sem]
  · have hL : dropL ps n = ps.set n (-1, false) := by simp [dropL, hc]
    rw [hL, hc, hv]
    rw [decide_eq_true (by omega)] at hr
    have HR := Lib.hid hr
    obtain ⟨gs, os, cs, gd, od, cd, rfl, rfl, ⟨p0, f0⟩, ⟨p1, f1⟩, l0, l1⟩ := h.at hn
    have HP := Lib.hid (h.put n hn (-1) false)
    have hgb : gs ≠ b := fun e => h.ns (by rw [e]; rfl)
    have hgd : gs ≠ gd := fun e => h.dd gs rfl (by rw [e]; rfl)
    have q1 : (w.setCell ⟨gs, os + n, none⟩ (.int .i64 (-1))).cell? ⟨b, 1, none⟩ = some (.slice (some ⟨gd, od, none⟩) ps.length cd) := ((upd_setCell w gs (os + n) (.int .i64 (-1))).cellAt h.blt (fun e => hgb e.symm)).trans g1
    have q2 : (w.setCell ⟨gs, os + n, none⟩ (.int .i64 (-1))).cell? ⟨gd, od + n, none⟩ = some (.bool ps[n].2) := ((upd_setCell w gs (os + n) (.int .i64 (-1))).cellAt l1 (fun e => hgd e.symm)).trans p1
    have q3 : (w.setCell ⟨gs, os + n, none⟩ (.int .i64 (-1))).frozen? ⟨gd, od + n, none⟩ = false := ((upd_setCell w gs (os + n) (.int .i64 (-1))).frozenAt l1 (fun e => hgd e.symm)).trans f1
    have hp' : ¬ ps[n].1 < 0 := by omega
    clear h hc hL hr hp hv hgb hgd
    go_enter Try.func51, Try.ntmps51
    go_wp2_with fail
    refine HR.out.mono ?_
    rintro e w1 ⟨rfl, rfl⟩
    go_wp2
    refine bodyPost_ret (v := .tuple #[.int .i64 ps[n].1, .bool ps[n].2, .int .i64 0]) ?_ rfl ⟨rfl, HP.out.1, HP.out.2⟩
    simp [results, Try.results51, go_sem]

set_option maxHeartbeats 1000000 in
theorem rclean_any (h : RefAt w b vs vd ps slots) (hgood : Good ps slots) (k : Int) :
    Calls Try.prog 52 #[.pointer (some ⟨b, 0, none⟩), .int .i64 k] w fun e w' => e = .returned (.int .i64 (getC ps k)) ∧
      RefAt w' b vs vd (cleanL ps k) slots ∧ Upd (rS vs vd) w w' := by
  have hr := right_any h k
  have H := Lib.hid h
  have hle := h.le
  have g0 := cell_of_block h.str 0
  have g1 := cell_of_block h.str 1
  simp at g0 g1
  rcases getC_cases hgood k with ⟨ho, hc⟩ | ⟨n, hn, rfl, hp, hc⟩ | ⟨n, hn, rfl, hp, hc, hv⟩
  · have hL : cleanL ps k = ps := by simp [cleanL, hc]
    rw [hL, hc]
    rw [decide_eq_false (by omega)] at hr
    have HR := Lib.hid hr
    clear h ho hc hL hr g0 g1
    go_enter Try.func52, Try.ntmps52
    go_wp2_with fail
    refine HR.out.mono ?_
    rintro e w1 ⟨rfl, rfl⟩
    go_wp2
    go_ret
    exact ⟨rfl, H.out, Upd.refl _ _⟩
  · have hL : cleanL ps n = ps := by simp [cleanL, hc]
    rw [hL, hc]
    rw [decide_eq_true (by omega)] at hr
    have HR := Lib.hid hr
    obtain ⟨gs, os, cs, gd, od, cd, rfl, rfl, ⟨p0, f0⟩, ⟨p1, f1⟩, l0, l1⟩ := h.at hn
    rw [hp] at p0
    clear h hc hL hr hp p1 f1
    go_enter Try.func52, Try.ntmps52
    go_wp2_with fail
    refine HR.out.mono ?_
    rintro e w1 ⟨rfl, rfl⟩
    go_wp2
    go_ret
    exact ⟨rfl, H.out, Upd.refl _ _⟩
  · have hL : cleanL ps n = ps.set n (ps[n].1, false) := by simp [cleanL, hc, hv]
    rw [hL, hc]
    rw [decide_eq_true (by omega)] at hr
    have HR := Lib.hid hr
    obtain ⟨gs, os, cs, gd, od, cd, rfl, rfl, ⟨p0, f0⟩, ⟨p1, f1⟩, l0, l1⟩ := h.at hn
    have hgb : gd ≠ b := fun e => h.nd (by rw [e]; rfl)
    have hgd : gs ≠ gd := fun e => h.dd gs rfl (by rw [e]; rfl)
    have hp' : ¬ ps[n].1 < 0 := by omega
    have u2 := upd_setCell w gd (od + n) (.bool false)
    have hs := h.ss.keep u2 (fun g hg e => by simp [Value.ownBlock] at hg; omega)
    have hd := h.ds.setAt n (by omega) (.bool false)
    rw [diC_set ps n ps[n].1 false] at hd
    have hs2 : slC (ps.set n (ps[n].1, false)) = slC ps := by rw [← slC_set ps n ps[n].1 false]; exact set_same (slC_at hn)
    have HF : Hid (RefAt (w.setCell ⟨gd, od + n, none⟩ (.bool false)) b (.slice (some ⟨gs, os, none⟩) ps.length cs) (.slice (some ⟨gd, od, none⟩) ps.length cd) (ps.set n (ps[n].1, false)) slots) :=
      { str := (u2.block _ h.blt (fun e => hgb e.symm)).trans h.str, ss := by rw [hs2]; simpa using hs, ds := by simpa using hd, ns := h.ns, nd := h.nd, dd := h.dd, le := by simpa using h.le, sl1 := h.sl1 }
    have HU : Hid (Upd (rS (.slice (some ⟨gs, os, none⟩) ps.length cs) (.slice (some ⟨gd, od, none⟩) ps.length cd)) w (w.setCell ⟨gd, od + n, none⟩ (.bool false))) := u2.mono (fun j _ e => .inr (by rw [e]; rfl))
    clear h hc hL hr hp hv hgb hgd u2 hs hd hs2
    go_enter Try.func52, Try.ntmps52
    go_wp2_with fail
    refine HR.out.mono ?_
    rintro e w1 ⟨rfl, rfl⟩
    go_wp2
    go_ret
    exact ⟨rfl, HF.out, HU.out⟩
end
end Go.Proofs.Ytmgcekpfnkcmjaa
