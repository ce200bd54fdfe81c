/- slices.Clone, slices.Delete of one at []int. -/
import Derived.Test.YtmgcekpfnkcmjaaSecMap
import Derived.Deep.RegionLaw
import Derived.Lib.SliceRun
namespace Go.Proofs.Ytmgcekpfnkcmjaa
open Go Go.RowKit

theorem infoI07 : (Try.prog.info? 3).map (fun i => (i.zero, i.size, i.bytes)) = some (some (.int .i64 0), 1, 8) := by kernel_rfl
theorem one_ints (l : List Int) : ∀ u ∈ ints l, u.oneCell' = true := by intro u hu; simp only [ints, List.mem_map] at hu; obtain ⟨p, _, rfl⟩ := hu; rfl

set_option maxRecDepth 100000 in
/-- 'slices.Clone' of ints. -/
theorem cloneI_any {w : World} {v : Value} {l : List Int} (h : Rd w 1 v l.length (ints l)) (hle : l.length ≤ 4096) :
    Calls Try.prog 72 #[v] w fun e w' => ∃ v', e = .returned v' ∧ Sl w' 3 1 v' l.length (ints l) ∧ From w.heap.size v' ∧ Below w.heap.size w w' := by
  obtain ⟨i0, hi, hz0, hz1, hz2⟩ := info_parts infoI07
  have H := Lib.hid h
  obtain ⟨hl, hm, ao, c, rfl, h0, _⟩ := h
  have q34 := fun (w : World) (a : Option Addr) (n c : Nat) => Lib.run_eql_slice_nil (P := Try.prog) w 45 3 a n c 0 0 Try.underlying45
  cases ao with
  | none =>
    have hn := h0 rfl
    have hE : Hid (Sl w 3 1 (.slice none 0 0) l.length (ints l)) := by
      have : l = [] := List.length_eq_zero_iff.1 hn
      subst this; exact Sl.nil _ _ _
    clear h0 hl H hm
    go_enter Try.func72, Try.ntmps72
    go_wp2
    go_ret
    exact ⟨_, rfl, hE.out, From.nil _ _ _, Below.refl _ _⟩
  | some a =>
    clear h0 hl
    have hs0 : Sl (w.alloc (.cells #[] 3)) 3 1 (.slice (some ⟨w.heap.size, 0, none⟩) 0 0) 0 [] :=
      ⟨by simp, .inr ⟨w.heap.size, 0, 0, #[], rfl, heap_alloc_last _ _ rfl, by simp, by simp [maxLen], by simp, by simp⟩⟩
    have HR : Hid (Rd (w.alloc (.cells #[] 3)) 1 (.slice (some a) l.length c) l.length (ints l)) := H.out.keep ((Upd.refl (fun _ => False) _).alloc _) (fun _ _ h => h)
    have hone := one_ints l
    go_enter Try.func72, Try.ntmps72
    go_wp2_with (at_builtin; refine wpList_append_sl rfl _ _ 45 rfl i0 (.int .i64 0) 8 Try.underlying45 hi hz0 hz1 hz2 rfl (by decide) rfl hs0 _ l.length (ints l) rfl HR.out hone (by unfold maxLen; omega) (by omega) ?_)
    intro v' w2 hs2 hu2 hb2
    go_wp2
    go_ret
    refine ⟨_, rfl, by simpa using hs2, ?_, ?_⟩
    · exact hb2.ge (by simp) (by intro g hg; simp [Value.ownBlock] at hg; omega)
    · refine below_upd ((Below.refl _ _).alloc (Nat.le_refl _) _) hu2 (Nat.le_refl _) (by intro k hk; simp [ownS, Value.ownBlock] at hk; omega)

theorem getElem_erase (l : List Int) (i j : Nat) : (l.eraseIdx i)[j]? = if j < i then l[j]? else l[j + 1]? := by
  rw [List.getElem?_eraseIdx]

set_option maxRecDepth 100000 in
set_option maxHeartbeats 1000000 in
/-- 'slices.Delete' of one int. -/
theorem del_one {w : World} {v : Value} {l : List Int} (h : Sl w 3 1 v l.length (ints l)) (hle : l.length ≤ 4096) {i : Nat} (hi : i < l.length) :
    Calls Try.prog 68 #[v, .int .i64 i, .int .i64 ((i : Int) + 1)] w fun e w' => ∃ v', e = .returned v' ∧ v'.ownBlock = v.ownBlock ∧ Sl w' 3 1 v' (l.eraseIdx i).length (ints (l.eraseIdx i)) ∧ Upd (ownS v) w w' := by
  obtain ⟨i0, hi0, hz0, hz1, hz2⟩ := info_parts infoI07
  obtain ⟨hl, ⟨rfl, h0⟩ | ⟨g, off, cap, cur, rfl, hg, hn, hm, hs, hc⟩⟩ := h
  · omega
  have hlen : (l.eraseIdx i).length = l.length - 1 := List.length_eraseIdx_of_lt hi
  obtain ⟨news, hnews⟩ : ∃ news, news = ints (l.drop (i + 1)) := ⟨_, rfl⟩
  have hnl : news.length = l.length - (i + 1) := by rw [hnews]; simp
  have hg' : w.drew.heap[g]? = some (.cells cur 3 (0, 0)) := hg
  obtain ⟨A, hA, hsrc⟩ : ∃ A : Addr, (if cap = i + 1 then some (⟨g, off, none⟩ : Addr) else some ⟨g, off + (i + 1), none⟩) = some A ∧ Hid (∀ t u, news[t]? = some u → w.drew.cell? (A.add t) = some u) := by
    by_cases h : cap = i + 1
    · refine ⟨⟨g, off, none⟩, by simp [h], fun t u hu => ?_⟩
      have h0 : news.length = 0 := by omega
      rw [List.length_eq_zero_iff.1 h0] at hu
      simp at hu
    · refine ⟨⟨g, off + (i + 1), none⟩, by simp [h], fun t u hu => ?_⟩
      rw [Addr.add_lit, cell_of_block hg']
      rw [hnews] at hu
      have : (ints l)[i + 1 + t]? = some u := by
        rw [← hu]; simp [ints, List.getElem?_drop]
      rw [show off + (i + 1) + t = off + (i + 1 + t) by omega]
      exact hc _ _ this
  have s1 : Hid (news.length = (l.length - (i + 1)) * 1) := by rw [Nat.mul_one]; exact hnl
  have s2 : Hid (∀ u ∈ news, u.oneCell' = true) := by rw [hnews]; exact one_ints _
  have s3 : Hid (∀ t, t < news.length → (w.drew.cell? ⟨g, off + i * 1 + t, none⟩).isSome = true ∧ w.drew.frozen? ⟨g, off + i * 1 + t, none⟩ = false) := by
    intro t ht
    rw [cell_of_block hg', frozen_of_block hg']
    refine ⟨?_, rfl⟩
    rw [Array.getElem?_eq_getElem (by omega)]; rfl
  obtain ⟨cur1, hb1, hz1', hget1⟩ := heap_setCells_same news (off + i * 1) w.drew g cur 3 (0, 0) hg'
  obtain ⟨W1, hW1⟩ : ∃ W1, W1 = w.drew.setCells g (off + i * 1) news := ⟨_, rfl⟩
  rw [← hW1] at hb1
  have hk1 : ∀ t, t < l.length - (i + (l.length - (i + 1))) → (W1.cell? ⟨g, off + (i + (l.length - (i + 1))) + t, none⟩).isSome = true := by
    intro t ht
    rw [cell_of_block hb1, Array.getElem?_eq_getElem (by omega)]; rfl
  have hcl : ∀ ty, (Builtin.clear_ #[45] ty #[.slice (some ⟨g, off + (i + (l.length - (i + 1))), none⟩) (l.length - (i + (l.length - (i + 1)))) (cap - (i + (l.length - (i + 1))))]).run Try.prog W1 = .ok (.tuple #[]) (W1.setCells g (off + (i + (l.length - (i + 1)))) (List.replicate (l.length - (i + (l.length - (i + 1)))) (.int .i64 0))) :=
    fun ty => Lib.run_clear_slice W1 _ 3 ty (.int .i64 0) Try.underlying45 (fun w => Try.zeroValue3 w) rfl rfl g (off + (i + (l.length - (i + 1)))) _ _ (by omega) hk1 (fun t _ => frozen_of_block hb1 _)
  obtain ⟨cur2, hb2, hz2', hget2⟩ := heap_setCells_same (List.replicate (l.length - (i + (l.length - (i + 1)))) (Value.int .i64 0)) (off + (i + (l.length - (i + 1)))) W1 g cur1 3 (0, 0) hb1
  have hU : Upd (ownS (.slice (some ⟨g, off, none⟩) l.length cap)) w (W1.setCells g (off + (i + (l.length - (i + 1)))) (List.replicate (l.length - (i + (l.length - (i + 1)))) (.int .i64 0))) := by
    refine Upd.trans (b := W1) ?_ (upd_setCells _ _ _ _ _ rfl)
    rw [hW1]
    exact ((Upd.refl _ w).drew).trans (upd_setCells _ _ _ _ _ rfl)
  have hend : Sl (W1.setCells g (off + (i + (l.length - (i + 1)))) (List.replicate (l.length - (i + (l.length - (i + 1)))) (.int .i64 0))) 3 1 (.slice (some ⟨g, off, none⟩) (i + (l.length - (i + 1))) cap) (l.eraseIdx i).length (ints (l.eraseIdx i)) := by
    refine ⟨by simp, .inr ⟨g, off, cap, cur2, by rw [hlen, show i + (l.length - (i + 1)) = l.length - 1 by omega], hb2, by omega, hm, by omega, fun j u hu => ?_⟩⟩
    have hj := (List.getElem?_eq_some_iff.1 hu).1
    rw [length_ints, hlen] at hj
    rw [hget2, if_neg (by omega), hget1]
    simp only [ints, List.getElem?_map, getElem_erase] at hu
    by_cases hji : j < i
    · rw [if_neg (by omega)]
      rw [if_pos hji] at hu
      exact hc j u (by simpa [ints] using hu)
    · rw [if_neg hji] at hu
      rw [if_pos ⟨by omega, by omega, by omega⟩, hnews, show off + j - (off + i * 1) = j - i by omega]
      simp only [ints, List.getElem?_map, List.getElem?_drop]
      rw [show i + 1 + (j - i) = j + 1 by omega]; exact hu
  have HU := Lib.hid hU; have HE := Lib.hid hend
  have hW : Hid (W1 = w.drew.setCells g (off + i * 1) news) := hW1
  have hic : i ≤ cap := by omega
  have hjc : i + 1 ≤ cap := by omega
  have hj0 : (0 : Int) ≤ (i : Int) + 1 := by omega
  have hj1 : (i : Int) + 1 ≤ (l.length : Int) := by omega
  have hj2 : 0 ≤ (i : Int) + 1 ∧ (i : Int) + 1 ≤ (l.length : Int) := ⟨hj0, hj1⟩
  have hb : ((i : Int) == (i : Int) + 1) = false := by simp; omega
  clear hk1 hU hend hget2 hget1 hb2 hb1 hW1 hc hg hg' hnews hnl hs
  go_enter Try.func68, Try.ntmps68
  go_wp2_with fail
  go_region_law (refine step_append_room rfl (.tmp 22) (.tmp 25) 45 rfl 3 i0 1 Try.underlying45 hi0 hz1 g off i cap (by simp [Act.eval, Act.put]) A (l.length - (i + 1)) (cap - (i + 1)) news (by simp [Act.eval, Act.put]) s1.out hsrc.out s2.out (by omega) s3.out ?_; rw [← hW.out])
  go_wp2
  go_ret
  exact ⟨_, rfl, rfl, HE.out, HU.out⟩
end Go.Proofs.Ytmgcekpfnkcmjaa
