/- The document's index: New. -/
import Derived.Test.YtmgcekpfnkcmjaaRef09b
import Derived.WalkSpells
namespace Go.Proofs.Ytmgcekpfnkcmjaa
open Go Go.RowKit

theorem infoI9 : (Try.prog.info? 3).map (fun i => (i.zero, i.size, i.bytes)) = some (some (.int .i64 0), 1, 8) := by kernel_rfl
theorem infoB9 : (Try.prog.info? 4).map (fun i => (i.zero, i.size, i.bytes)) = some (some (.bool false), 1, 1) := by kernel_rfl

theorem own_len (ao : Option Addr) (n n' c : Nat) : (Value.slice ao n c).ownBlock = (Value.slice ao n' c).ownBlock := by cases ao <;> rfl
theorem slC_rep (k : Nat) : slC (List.replicate (k + 1) (-1, false)) = slC (List.replicate k (-1, false)) ++ [.int .i64 (-1)] := by simp [slC, ints, List.replicate_succ']
theorem diC_rep (k : Nat) : diC (List.replicate (k + 1) (-1, false)) = diC (List.replicate k (-1, false)) ++ [.bool false] := by simp [diC, bools, List.replicate_succ']

set_option maxRecDepth 100000 in
set_option maxHeartbeats 2000000 in
theorem rnew_ok (n s : Nat) (w : World) (hn : n ≤ 4096) (hs : s ≤ 1024) :
    Calls Try.prog 16 #[.int .i64 n, .int .i64 s] w fun e w' => ∃ b vs vd, e = .returned (.pointer (some ⟨b, 0, none⟩)) ∧ RefAt w' b vs vd (List.replicate n (-1, false)) s ∧ w.heap.size ≤ b ∧ (∀ j, rS vs vd j → w.heap.size ≤ j) ∧ Below w.heap.size w w' := by
  obtain ⟨i0, hi, hz0, hz1, hz2⟩ := info_parts infoI9
  obtain ⟨j0, hj, hy0, hy1, hy2⟩ := info_parts infoB9
  go_enter Try.func16, Try.ntmps16
  go_wp2
  go_loopg [6] n (fun g i wr => ∃ (k : Nat) (vs vd : Value), k + g = n ∧ i = .int .i64 k ∧ RefAt wr w.heap.size vs vd (List.replicate k (-1, false)) s ∧ From w.heap.size vs ∧ From w.heap.size vd ∧ Below w.heap.size w wr)
  case atStart =>
    refine ⟨0, .slice none 0 0, .slice none 0 0, by omega, rfl, { str := heap_alloc_last _ _ rfl, ss := Sl.nil _ _ _, ds := Sl.nil _ _ _, ns := by simp [Value.ownBlock], nd := by simp [Value.ownBlock], dd := Dis.nil _ _ _, le := by simp, sl1 := hs }, From.nil _ _ _, From.nil _ _ _, (Below.refl _ _).alloc (Nat.le_refl _) _⟩
  case round =>
    obtain ⟨k, vs, vd, hk, rfl, hr, hfs, hfd, hb⟩ := hrel
    by_cases hlt : k < n
    · have c0 := cell_of_block hr.str 0
      have c1 := cell_of_block hr.str 1
      have f0 := frozen_of_block hr.str 0
      simp at c0 c1
      obtain ⟨so, sc, rfl⟩ := hr.ss.rd.nil_iff
      obtain ⟨eo, ec, rfl⟩ := hr.ds.rd.nil_iff
      have hss := hr.ss
      have hds := hr.ds
      have hstr := hr.str
      have hns := hr.ns
      have hnd := hr.nd
      have hdd := hr.dd
      have hbl := hr.blt
      simp only [List.length_replicate] at hss hds hstr hns hnd hdd c0 c1 hfs hfd
      have HT := Lib.hid hstr
      have HD := Lib.hid (And.intro hdd (And.intro hns hnd))
      have HFS := Lib.hid hfs
      have HFD := Lib.hid hfd
      have HDS := Lib.hid hds
      clear hr hfs hfd hds hstr hns hnd hdd
      go_wp2_with (at_builtin; refine wpList_append_one rfl _ _ 45 rfl i0 (.int .i64 0) 8 Try.underlying45 hi hz0 hz1 hz2 rfl (by decide) rfl hss [.int .i64 (-1)] rfl rfl (by simp [Value.oneCell']) (by unfold maxLen; omega) (by omega) ?_)
      intro v3 w3 hs3 hu3 hb3
      have hf3 := hb3.ge hb.size HFS.out
      have hne3 : v3.ownBlock ≠ some w.heap.size := fun e => by
        rcases hb3 with h | ⟨g', h, hge⟩
        · exact HD.out.2.1 (by rw [← h]; exact e)
        · rw [h] at e; cases e; omega
      have hT3 := (hu3.block _ hbl (fun e => HD.out.2.1 e)).trans HT.out
      have hds3 := HDS.out.keep_dis HD.out.1.symm hu3
      have hdd3 : Dis v3 (.slice eo k ec) := HD.out.1.from hb3 (fun g hg => HDS.out.lt hg)
      have hb3' := below_upd hb hu3 (Nat.le_refl _) HFS.out.own
      have hbl3 := hu3.lt hbl
      obtain ⟨o3, c3, rfl⟩ := hs3.rd.nil_iff
      have t0 := cell_of_block hT3 0
      have t1 := cell_of_block hT3 1
      have f0' := frozen_of_block hT3 0
      simp at t0 t1
      have hu4 := upd_setCell w3 w.heap.size 0 (.slice o3 (k + 1) c3)
      have hT4 := heap_setCell_same hT3 0 (.slice o3 (k + 1) c3)
      have hS4 := hs3.keep_ne hu4 hne3
      have hD4 := hds3.keep_ne hu4 HD.out.2.2
      have hB4 := below_upd hb3' hu4 (Nat.le_refl _) (fun j e => by omega)
      have HT4 := Lib.hid hT4
      have HZ : Hid ((w3.setCell ⟨w.heap.size, 0, none⟩ (.slice o3 (k + 1) c3)).heap.size = w3.heap.size) := by show _ = _; simp
      have HS4 := Lib.hid hS4
      have HF3 := Lib.hid (And.intro hf3 (And.intro hne3 hdd3))
      clear hT3 hT4 hs3 hS4 hds3 hu3 hb3 hu4 hf3 hne3 hdd3 c0 c1 f0 hss
      go_wp2_with (at_builtin; refine wpList_append_one rfl _ _ 72 rfl j0 (.bool false) 1 Try.underlying72 hj hy0 hy1 hy2 rfl (by decide) rfl hD4 [.bool false] (by rw [HZ.out]; rfl) rfl (by simp [Value.oneCell']) (by unfold maxLen; omega) (by omega) ?_)
      intro v5 w5 hs5 hu5 hb5
      have hf5 := hb5.ge hB4.size HFD.out
      have hz4 := HZ.out
      have hne5 : v5.ownBlock ≠ some w.heap.size := fun e => by
        rcases hb5 with h | ⟨g', h, hge⟩
        · exact HD.out.2.2 (by rw [← h]; exact e)
        · rw [h] at e; cases e; omega
      have hT5 := (hu5.block _ (by omega) (fun e => HD.out.2.2 e)).trans HT4.out
      have hS5 := HS4.out.keep_dis HF3.out.2.2 hu5
      have hdd5 : Dis (.slice o3 (k + 1) c3) v5 := (HF3.out.2.2.symm.from hb5 (fun g hg => HS4.out.lt hg)).symm
      have hb5' := below_upd hB4 hu5 (Nat.le_refl _) HFD.out.own
      obtain ⟨o5, c5, rfl⟩ := hs5.rd.nil_iff
      have t5 := cell_of_block hT5 1
      have f5 := frozen_of_block hT5 1
      simp at t5
      have hu6 := upd_setCell w5 w.heap.size 1 (.slice o5 (k + 1) c5)
      have hT6 := heap_setCell_same hT5 1 (.slice o5 (k + 1) c5)
      have HR6 : Hid (RefAt (w5.setCell ⟨w.heap.size, 1, none⟩ (.slice o5 (k + 1) c5)) w.heap.size (.slice o3 (k + 1) c3) (.slice o5 (k + 1) c5) (List.replicate (k + 1) (-1, false)) s) :=
        { str := by simpa using hT6, ss := by rw [slC_rep, List.length_replicate]; exact hS5.keep_ne hu6 HF3.out.2.1, ds := by rw [diC_rep, List.length_replicate]; exact hs5.keep_ne hu6 hne5, ns := HF3.out.2.1, nd := hne5, dd := hdd5, le := by simp; omega, sl1 := hs }
      have HB6 := Lib.hid (below_upd hb5' hu6 (Nat.le_refl _) (fun j e => by omega))
      have HF5 := Lib.hid hf5
      clear hT5 hS5 hdd5 hb5' hs5 hu5 hb5 hu6 hT6 hne5 hf5 hD4 hB4 t0 t1 f0' hb3' hz4
      go_wp2
      go_roundg (gk - 1)
      case measure => omega
      case rel => exact ⟨k + 1, _, _, by omega, by go_num, HR6.out, HF3.out.1, HF5.out, HB6.out⟩
    · obtain rfl : k = n := by omega
      go_wp2
      go_ret
      exact ⟨_, vs, vd, rfl, hr, Nat.le_refl _, fun j hj => hj.elim (hfs j) (hfd j), hb⟩
end Go.Proofs.Ytmgcekpfnkcmjaa
