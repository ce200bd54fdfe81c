/- A clock of texts: New, Add of a text twice, Evict of nothing, Has, Len. -/
import Derived.Test.YtmgcekpfnkcmjaaDoes07
namespace Go.Proofs.Ytmgcekpfnkcmjaa
open Go Go.RowKit

theorem sindexS_nil (s : ByteArray) (w : World) :
    Calls Try.prog 99 #[.slice none 0 0, .string s] w fun e w' => e = .returned (.int .i64 (-1)) ∧ w' = w := by
  go_enter Try.func99, Try.ntmps99
  go_wp2
  go_loopg [8] 0 (fun g i wr => g = 0 ∧ i = .int .i64 0 ∧ wr = w)
  case atStart => exact ⟨rfl, rfl, rfl⟩
  case round =>
    obtain ⟨_, rfl, rfl⟩ := hrel
    go_wp2
    go_ret
    exact ⟨rfl, rfl⟩
theorem sindexS_one {w : World} {v : Value} (s : ByteArray) (h : Rd w 1 v 1 [.string s]) :
    Calls Try.prog 99 #[v, .string s] w fun e w' => e = .returned (.int .i64 0) ∧ w' = w := by
  obtain ⟨g, off, c, rfl, hg, hc⟩ := h.at (by omega)
  have hc0 := hc 0 _ (by simp : [Value.string s][0]? = some (.string s))
  simp at hc0
  clear h hc
  go_enter Try.func99, Try.ntmps99
  go_wp2
  go_loopg [8] 0 (fun g i wr => g = 0 ∧ i = .int .i64 0 ∧ wr = w)
  case atStart => exact ⟨rfl, rfl, rfl⟩
  case round =>
    obtain ⟨_, rfl, rfl⟩ := hrel
    go_wp2
    go_ret
    exact ⟨rfl, rfl⟩

set_option maxRecDepth 100000 in
theorem sfind {w : World} {v : Value} (s : ByteArray) (r : Int) (hx : ∀ w1, Upd (fun _ => False) w w1 → Calls Try.prog 99 #[v, .string s] w1 fun e w' => e = .returned (.int .i64 r) ∧ w' = w1) :
    Calls Try.prog 77 #[v, .string s] w fun e w' => e = .returned (.int .i64 r) ∧ Below w.heap.size w w' := by
  have hmf : ∀ (fn : Fn) (first cap : Array Value) (w : World), (Instr.makeFunc fn first cap).run Try.prog w = .ok (.func fn first cap) w := fun _ _ _ _ => rfl
  have HF := Lib.hid hx
  clear hx
  go_enter_defers Try.func77, Try.ntmps77
  go_wp2_with fail
  refine (HF.out _ ((Upd.refl (fun _ => False) w).alloc _)).mono ?_
  rintro e w1 ⟨rfl, rfl⟩
  go_wp2
  refine leaves_cons (f := 98) (args := #[.pointer (some ⟨w.heap.size, 0, none⟩)]) (by simp) (by simp [go_sem]) ?_
  refine (findS_idle _ _).mono ?_
  rintro e u' w'' ⟨rfl, rfl, rfl⟩
  simp [Leaves, settle, results, Try.results77, go_sem]
  exact (Below.refl _ _).alloc (Nat.le_refl _) _
theorem sfind_nil (s : ByteArray) (w : World) : Calls Try.prog 77 #[.slice none 0 0, .string s] w fun e w' => e = .returned (.int .i64 (-1)) ∧ Below w.heap.size w w' :=
  sfind s (-1) fun w1 _ => sindexS_nil s w1
theorem sfind_one {w : World} {v : Value} (s : ByteArray) (h : Rd w 1 v 1 [.string s]) : Calls Try.prog 77 #[v, .string s] w fun e w' => e = .returned (.int .i64 0) ∧ Below w.heap.size w w' :=
  sfind s 0 fun w1 hu => sindexS_one s (h.keep hu (fun _ _ h => h))

/-- A clock of texts: two at most, one ghost. -/
structure CsAt (w : World) (b mb : Nat) (vk : Value) (n : Nat) (K : List Value) : Prop where
  str : w.heap[b]? = some (.cells #[.int .i64 2, .int .i64 1, vk, .map (some mb), .slice none 0 0] 130 (0, 0))
  ks : Sl w 9 1 vk n K
  kb : vk.ownBlock ≠ some b
theorem CsAt.keep {w w' : World} {b mb n : Nat} {vk : Value} {K : List Value} (h : CsAt w b mb vk n K) (hu : Upd (fun _ => False) w w') : CsAt w' b mb vk n K :=
  ⟨(hu.block _ (lt_of_block h.str) (fun h => h)).trans h.str, h.ks.keep hu (fun _ _ h => h), h.kb⟩
theorem CsAt.c {w : World} {b mb n : Nat} {vk : Value} {K : List Value} (h : CsAt w b mb vk n K) : w.cell? ⟨b, 0, none⟩ = some (.int .i64 2) ∧ w.cell? ⟨b, 2, none⟩ = some vk ∧ w.cell? ⟨b, 4, none⟩ = some (.slice none 0 0) ∧ (∀ i, w.frozen? ⟨b, i, none⟩ = false) := by
  refine ⟨?_, ?_, ?_, frozen_of_block h.str⟩ <;> rw [cell_of_block h.str] <;> rfl

set_option maxRecDepth 100000 in
theorem snew (w : World) : Calls Try.prog 42 #[.int .i64 2, .int .i64 1] w fun e w' => ∃ b mb, e = .returned (.tuple #[.pointer (some ⟨b, 0, none⟩), .int .i64 0]) ∧
      CsAt w' b mb (.slice none 0 0) 0 [] ∧ w.heap.size ≤ b ∧ Below w.heap.size w w' := by
  have hmm := @run_makeMap Try.prog
  go_enter Try.func42, Try.ntmps42
  go_wp2
  go_ret2
  have hU := Upd.alloc (Upd.refl (fun _ => False) w) (.map #[] 0)
  have hz : (w.alloc (.map #[] 0)).heap.size = w.heap.size + 1 := by simp
  exact ⟨w.heap.size + 1, w.heap.size, rfl, ⟨heap_alloc_last _ _ hz.symm, Sl.nil _ _ _, by simp [Value.ownBlock]⟩, by omega, (hU.alloc _).below⟩

theorem infoS7 : (Try.prog.info? 9).map (fun i => (i.zero, i.size, i.bytes)) = some (some (.string ⟨#[]⟩), 1, 16) := by kernel_rfl

set_option maxRecDepth 100000 in
set_option maxHeartbeats 1000000 in
theorem sadd_new {w : World} {b mb : Nat} (h : CsAt w b mb (.slice none 0 0) 0 []) (s : ByteArray) :
    Calls Try.prog 43 #[.pointer (some ⟨b, 0, none⟩), .string s] w fun e w' => ∃ vk, e = .returned (.int .i64 0) ∧ CsAt w' b mb vk 1 [.string s] ∧ Upd (fun j => j = b) w w' := by
  obtain ⟨i0, hi0, hz0, hz1, hz2⟩ := info_parts infoS7
  have H := Lib.hid h
  obtain ⟨g0, g2, g4, f⟩ := h.c
  clear h
  go_enter Try.func43, Try.ntmps43
  go_wp2_with fail
  refine (sfind_nil s _).mono ?_
  rintro e w1 ⟨rfl, hb1⟩
  have H1 := H.out.keep (Upd.of_below hb1)
  have HU1 := Lib.hid (Upd.of_below (S := fun _ => False) hb1)
  clear g0 g2 g4 f hb1
  obtain ⟨g0, g2, g4, f⟩ := H1.c
  have H1 := Lib.hid H1
  go_wp2
  go_quiet (fail)
  generalize hw2 : w1.drewN nq = w2
  have hu2 : Upd (fun _ => False) w1 w2 := by rw [← hw2]; exact (Upd.refl _ _).drewN nq
  have H2 := H1.out.keep hu2
  have HU2 := Lib.hid (HU1.out.trans hu2)
  clear hw2 hu2 g0 g2 g4 f
  obtain ⟨g0, g2, g4, f⟩ := H2.c
  have H2 := Lib.hid H2
  go_wp2_with (at_builtin; refine wpList_append_one rfl _ _ 128 rfl i0 (.string ⟨#[]⟩) 16 Try.underlying128 hi0 hz0 hz1 hz2 rfl (by decide) rfl H2.out.ks [.string s] rfl rfl (by intro u hu; simp at hu; subst hu; rfl) (by unfold maxLen; omega) (by omega) ?_)
  intro v3 w3 hs3 hu3 hbf3
  obtain ⟨ao3, p3, rfl⟩ := hs3.rd.nil_iff
  have hne : (Value.slice ao3 (0 + 1) p3).ownBlock ≠ some b := by
    intro e
    rcases hbf3 with e2 | ⟨g, e2, hg⟩
    · rw [e2] at e; cases e
    · rw [e2] at e; cases e; have := lt_of_block H2.out.str; omega
  have hstr3 := (hu3.block b (lt_of_block H2.out.str) (fun e => by simp [ownS, Value.ownBlock] at e)).trans H2.out.str
  have c2 := cell_of_block hstr3 2
  have c4 := cell_of_block hstr3 4
  have f2 := frozen_of_block hstr3 2
  simp at c2 c4
  have HM : Hid (CsAt (w3.setCell ⟨b, 2, none⟩ (.slice ao3 (0 + 1) p3)) b mb (.slice ao3 (0 + 1) p3) 1 [.string s]) := ⟨heap_setCell_same hstr3 2 _, hs3.keep_ne (upd_setCell _ _ _ _) hne, hne⟩
  have HU3 : Hid (Upd (fun j => j = b) w (w3.setCell ⟨b, 2, none⟩ (.slice ao3 (0 + 1) p3))) := ((HU2.out.mono (fun _ _ h => h.elim)).trans (hu3.mono (fun j _ e => by simp [ownS, Value.ownBlock] at e))).trans (upd_setCell _ _ _ _)
  clear hs3 hu3 hbf3 hstr3 g0 g2 g4 f hne
  go_wp2_with fail
  refine (sfind_nil s _).mono ?_
  rintro e w4 ⟨rfl, hb4⟩
  have H4 := Lib.hid (HM.out.keep (Upd.of_below hb4))
  have HU4 := Lib.hid (HU3.out.trans (Upd.of_below hb4))
  clear hb4 c2 c4 f2
  go_wp2
  go_ret
  exact ⟨_, rfl, H4.out, HU4.out⟩

set_option maxRecDepth 100000 in
theorem sadd_there {w : World} {b mb : Nat} {vk : Value} {s : ByteArray} (h : CsAt w b mb vk 1 [.string s]) :
    Calls Try.prog 43 #[.pointer (some ⟨b, 0, none⟩), .string s] w fun e w' => e = .returned (.int .i64 15) ∧ Below w.heap.size w w' := by
  have HR := Lib.hid h.ks.rd
  obtain ⟨g0, g2, g4, f⟩ := h.c
  obtain ⟨ao, c, rfl⟩ := h.ks.rd.nil_iff
  clear h
  go_enter Try.func43, Try.ntmps43
  go_wp2_with fail
  refine (sfind_one s HR.out).mono ?_
  rintro e w1 ⟨rfl, hb1⟩
  go_wp2
  go_ret
  exact ⟨rfl, hb1⟩
set_option maxRecDepth 100000 in
theorem shas_one {w : World} {b mb : Nat} {vk : Value} {s : ByteArray} (h : CsAt w b mb vk 1 [.string s]) :
    Calls Try.prog 45 #[.pointer (some ⟨b, 0, none⟩), .string s] w fun e w' => e = .returned (.bool true) ∧ Below w.heap.size w w' := by
  have HR := Lib.hid h.ks.rd
  obtain ⟨g0, g2, g4, f⟩ := h.c
  obtain ⟨ao, c, rfl⟩ := h.ks.rd.nil_iff
  clear h
  go_enter Try.func45, Try.ntmps45
  go_wp2_with fail
  refine (sfind_one s HR.out).mono ?_
  rintro e w1 ⟨rfl, hb1⟩
  go_wp2
  go_ret
  exact ⟨rfl, hb1⟩
theorem slen_one {w : World} {b mb : Nat} {vk : Value} {K : List Value} (h : CsAt w b mb vk 1 K) :
    Calls Try.prog 46 #[.pointer (some ⟨b, 0, none⟩)] w fun e w' => e = .returned (.int .i64 1) ∧ w' = w := by
  obtain ⟨g0, g2, g4, f⟩ := h.c
  obtain ⟨ao, c, rfl⟩ := h.ks.rd.nil_iff
  clear h
  go_enter Try.func46, Try.ntmps46
  go_wp2
  go_ret
  exact ⟨rfl, rfl⟩
set_option maxRecDepth 100000 in
theorem sevict_nil {a : Addr} (w : World) :
    Calls Try.prog 44 #[.pointer (some a), .nilFunc] w fun e w' => e = .returned (.tuple #[.string ⟨#[]⟩, .int .i64 2]) ∧ Below w.heap.size w w' := by
  have hq : ∀ w, (binOp .eql 89 .nilFunc .nilFunc).run Try.prog w = .ok (.bool true) w := fun _ => by kernel_rfl
  go_enter Try.func44, Try.ntmps44
  go_wp2
  refine wp_scope_straight ?_
  go_wp2
  rw [Exit.noGoto_ret]
  go_ret2
  exact ⟨rfl, (Below.refl _ _).alloc (Nat.le_refl _) _⟩
end Go.Proofs.Ytmgcekpfnkcmjaa
