/- The clock: what it is in memory; New, Has, Ghost, Len, Touch. -/
import Derived.Test.YtmgcekpfnkcmjaaSecCat
namespace Go.Proofs.Ytmgcekpfnkcmjaa
open Go Go.RowKit

/-- What holds of a clock's keys, those that were asked for, and ghosts. -/
structure CkGood (most few : Nat) (K : List Int) (A : Int → Bool) (G : List Int) : Prop where
  kr : ∀ x ∈ K, InR x
  gr : ∀ x ∈ G, InR x
  kd : K.Nodup
  gd : G.Nodup
  dis : ∀ x ∈ K, x ∉ G
  ask : ∀ x, A x = true → x ∈ K
  kl : K.length ≤ most
  gl : G.length ≤ few
  ml : most ≤ 1024
  fl : few ≤ 1024
  m1 : 1 ≤ most

/-- A clock's memory. -/
structure CkMem (w : World) (b mb N : Nat) (vk vg : Value) (most few : Nat) (K : List Int) (A : Int → Bool) (G : List Int) : Prop where
  str : w.heap[b]? = some (.cells #[.int .i64 most, .int .i64 few, vk, .map (some mb), vg] 113 (0, 0))
  ks : Sl w 3 1 vk K.length (ints K)
  gs : Sl w 3 1 vg G.length (ints G)
  set : SetAt w mb N A
  kb : vk.ownBlock ≠ some b
  gb : vg.ownBlock ≠ some b
  km : vk.ownBlock ≠ some mb
  gm : vg.ownBlock ≠ some mb
  bm : mb ≠ b
  kg : Dis vk vg

/-- A clock in memory. -/
structure CkAt (w : World) (b mb N : Nat) (vk vg : Value) (most few : Nat) (K : List Int) (A : Int → Bool) (G : List Int) : Prop extends CkMem w b mb N vk vg most few K A G where
  good : CkGood most few K A G

/-- The blocks of a clock. -/
def ckS (b mb : Nat) (vk vg : Value) : Nat → Prop := fun j => j = b ∨ j = mb ∨ vk.ownBlock = some j ∨ vg.ownBlock = some j

section
variable {w w' : World} {b mb N most few : Nat} {vk vg : Value} {K G : List Int} {A : Int → Bool}
theorem CkMem.keep (h : CkMem w b mb N vk vg most few K A G) {S : Nat → Prop} (hu : Upd S w w') (hs : ∀ j, ckS b mb vk vg j → ¬ S j) : CkMem w' b mb N vk vg most few K A G :=
  { h with
    str := (hu.block _ (lt_of_block h.str) (hs b (.inl rfl))).trans h.str
    ks := h.ks.keep hu (fun g hg => hs g (.inr (.inr (.inl hg))))
    gs := h.gs.keep hu (fun g hg => hs g (.inr (.inr (.inr hg))))
    set := SetAt.keep h.set hu (hs mb (.inr (.inl rfl))) }
theorem CkMem.below (h : CkMem w b mb N vk vg most few K A G) (hb : Below w.heap.size w w') : CkMem w' b mb N vk vg most few K A G :=
  h.keep (Upd.of_below (S := fun _ => False) hb) (fun _ _ h => h)
theorem CkAt.keep (h : CkAt w b mb N vk vg most few K A G) {S : Nat → Prop} (hu : Upd S w w') (hs : ∀ j, ckS b mb vk vg j → ¬ S j) : CkAt w' b mb N vk vg most few K A G :=
  { h with
    str := (hu.block _ (lt_of_block h.str) (hs b (.inl rfl))).trans h.str
    ks := h.ks.keep hu (fun g hg => hs g (.inr (.inr (.inl hg))))
    gs := h.gs.keep hu (fun g hg => hs g (.inr (.inr (.inr hg))))
    set := SetAt.keep h.set hu (hs mb (.inr (.inl rfl))) }
theorem CkAt.below (h : CkAt w b mb N vk vg most few K A G) (hb : Below w.heap.size w w') : CkAt w' b mb N vk vg most few K A G :=
  h.keep (Upd.of_below (S := fun _ => False) hb) (fun _ _ h => h)
theorem CkAt.mono (h : CkAt w b mb N vk vg most few K A G) {N' : Nat} (hn : N ≤ N') : CkAt w b mb N' vk vg most few K A G := { h with set := h.set.mono hn }
theorem CkAt.blt (h : CkAt w b mb N vk vg most few K A G) : b < w.heap.size := lt_of_block h.str
theorem CkAt.slt (h : CkAt w b mb N vk vg most few K A G) : ∀ j, ckS b mb vk vg j → j < w.heap.size := by
  rintro j (rfl | rfl | hj | hj)
  · exact h.blt
  · exact h.set.lt
  · exact h.ks.lt hj
  · exact h.gs.lt hj
theorem CkAt.kle (h : CkAt w b mb N vk vg most few K A G) : K.length ≤ 1024 := Nat.le_trans h.good.kl h.good.ml
theorem CkAt.gle (h : CkAt w b mb N vk vg most few K A G) : G.length ≤ 1024 := Nat.le_trans h.good.gl h.good.fl
end

theorem CkGood.start {m f : Nat} (h1 : 1 ≤ m) (h2 : m ≤ 1024) (h3 : f ≤ 1024) : CkGood m f [] (fun _ => false) [] :=
  { kr := by simp, gr := by simp, kd := by simp, gd := by simp, dis := by simp, ask := by simp, kl := by simp, gl := by simp, ml := h2, fl := h3, m1 := h1 }

theorem idx_in {l : List Int} {k : Int} (h : k ∈ l) : ∃ i : Nat, ∃ hi : i < l.length, idxI l k = i ∧ l[i] = k ∧ ∀ j (hj : j < l.length), j < i → l[j] ≠ k := by
  unfold idxI
  cases hf : l.findIdx? (· == k) with
  | none =>
    rw [List.findIdx?_eq_none_iff] at hf
    have := hf k h
    simp at this
  | some i =>
    rw [List.findIdx?_eq_some_iff_getElem] at hf
    obtain ⟨hi, he, hb⟩ := hf
    exact ⟨i, hi, rfl, by simpa using he, fun j _ hji => by simpa using hb j hji⟩
theorem idx_out {l : List Int} {k : Int} (h : k ∉ l) : idxI l k = -1 := idxI_none (fun _ hj e => h (e ▸ List.getElem_mem hj))
theorem idx_ge {l : List Int} {k : Int} : decide (0 ≤ idxI l k) = decide (k ∈ l) := by
  by_cases h : k ∈ l
  · obtain ⟨i, hi, he, _⟩ := idx_in h
    rw [he, decide_eq_true h]; simp
  · rw [idx_out h, decide_eq_false h]; rfl

theorem knew_bad (m f : Int) (hb : m < 1 ∨ 1024 < m ∨ f < 0 ∨ 1024 < f) (w : World) :
    Calls Try.prog 28 #[.int .i64 m, .int .i64 f] w fun e w' => e = .returned (.tuple #[.pointer none, .int .i64 24]) ∧ w' = w := by
  by_cases h1 : m < 1
  · clear hb
    go_enter Try.func28, Try.ntmps28
    go_wp2
    go_ret2
    exact ⟨rfl, rfl⟩
  · by_cases h2 : 1024 < m
    · clear hb
      go_enter Try.func28, Try.ntmps28
      go_wp2
      go_ret2
      exact ⟨rfl, rfl⟩
    · by_cases h3 : f < 0
      · clear hb
        go_enter Try.func28, Try.ntmps28
        go_wp2
        go_ret2
        exact ⟨rfl, rfl⟩
      · have h4 : 1024 < f := by omega
        clear hb
        go_enter Try.func28, Try.ntmps28
        go_wp2
        go_ret2
        exact ⟨rfl, rfl⟩

set_option maxRecDepth 100000 in
theorem knew_ok (m f : Nat) (w : World) (h1 : 1 ≤ m) (h2 : m ≤ 1024) (h3 : f ≤ 1024) :
    Calls Try.prog 28 #[.int .i64 m, .int .i64 f] w fun e w' => ∃ b mb, e = .returned (.tuple #[.pointer (some ⟨b, 0, none⟩), .int .i64 0]) ∧
      CkAt w' b mb 0 (.slice none 0 0) (.slice none 0 0) m f [] (fun _ => false) [] ∧ w.heap.size ≤ b ∧ w.heap.size ≤ mb ∧ Below w.heap.size w w' := by
  have hmm := @run_makeMap Try.prog
  have q1 : ¬ ((m : Int) < 1) := by omega
  have q2 : ¬ ((1024 : Int) < m) := by omega
  have q3 : ¬ ((f : Int) < 0) := by omega
  have q4 : ¬ ((1024 : Int) < f) := by omega
  have HM := Lib.hid (And.intro h1 (And.intro h2 h3))
  clear h1 h2 h3
  go_enter Try.func28, Try.ntmps28
  go_wp2
  go_ret2
  have hU := Upd.alloc (Upd.refl (fun _ => False) w) (.map #[] 0)
  have hz : (w.alloc (.map #[] 0)).heap.size = w.heap.size + 1 := by simp
  refine ⟨w.heap.size + 1, rfl, w.heap.size, ⟨⟨heap_alloc_last _ _ hz.symm, Sl.nil _ _ _, Sl.nil _ _ _, (SetAt.made w).keep (Upd.alloc (Upd.refl (fun _ => False) _) _) (fun h => h), by simp [Value.ownBlock], by simp [Value.ownBlock], by simp [Value.ownBlock], by simp [Value.ownBlock], by omega, Dis.nil _ _ _⟩, CkGood.start HM.out.1 HM.out.2.1 HM.out.2.2⟩, by omega, Nat.le_refl _, (hU.alloc _).below⟩

theorem klen_nil (w : World) : Calls Try.prog 34 #[.pointer none] w fun e w' => e = .returned (.int .i64 0) ∧ w' = w := by
  go_enter Try.func34, Try.ntmps34
  go_wp2
  go_ret
  exact ⟨rfl, rfl⟩
theorem khas_nil (k : Int) (w : World) : Calls Try.prog 32 #[.pointer none, .int .i64 k] w fun e w' => e = .returned (.bool false) ∧ w' = w := by
  go_enter Try.func32, Try.ntmps32
  go_wp2
  go_ret
  exact ⟨rfl, rfl⟩
theorem kghost_nil (k : Int) (w : World) : Calls Try.prog 31 #[.pointer none, .int .i64 k] w fun e w' => e = .returned (.bool false) ∧ w' = w := by
  go_enter Try.func31, Try.ntmps31
  go_wp2
  go_ret
  exact ⟨rfl, rfl⟩
theorem kadd_nil (k : Int) (w : World) : Calls Try.prog 35 #[.pointer none, .int .i64 k] w fun e w' => e = .returned (.int .i64 2) ∧ w' = w := by
  go_enter Try.func35, Try.ntmps35
  go_wp2
  go_ret
  exact ⟨rfl, rfl⟩
theorem ktouch_nil (k : Int) (w : World) : Calls Try.prog 37 #[.pointer none, .int .i64 k] w fun e w' => e = .returned (.int .i64 2) ∧ w' = w := by
  go_enter Try.func37, Try.ntmps37
  go_wp2
  go_ret
  exact ⟨rfl, rfl⟩
theorem kdrop_nil (k : Int) (w : World) : Calls Try.prog 33 #[.pointer none, .int .i64 k] w fun e w' => e = .returned (.int .i64 2) ∧ w' = w := by
  go_enter Try.func33, Try.ntmps33
  go_wp2
  go_ret
  exact ⟨rfl, rfl⟩

theorem klen_any {w : World} {b mb N most few : Nat} {vk vg : Value} {K G : List Int} {A : Int → Bool} (h : CkAt w b mb N vk vg most few K A G) :
    Calls Try.prog 34 #[.pointer (some ⟨b, 0, none⟩)] w fun e w' => e = .returned (.int .i64 K.length) ∧ w' = w := by
  have g2 := cell_of_block h.str 2
  simp at g2
  have hle := h.kle
  obtain ⟨ao, c, rfl⟩ := h.ks.rd.nil_iff
  clear h
  go_enter Try.func34, Try.ntmps34
  go_wp2
  go_ret
  exact ⟨rfl, rfl⟩

set_option maxRecDepth 100000 in
theorem khas_any {w : World} {b mb N most few : Nat} {vk vg : Value} {K G : List Int} {A : Int → Bool} (h : CkAt w b mb N vk vg most few K A G) (k : Int) :
    Calls Try.prog 32 #[.pointer (some ⟨b, 0, none⟩), .int .i64 k] w fun e w' => e = .returned (.bool (decide (k ∈ K))) ∧ Below w.heap.size w w' := by
  have g2 := cell_of_block h.str 2
  simp at g2
  have HR := Lib.hid h.ks.rd
  have hle := h.kle
  obtain ⟨ao, c, rfl⟩ := h.ks.rd.nil_iff
  clear h
  have HI := Lib.hid (idx_ge (l := K) (k := k))
  go_enter Try.func32, Try.ntmps32
  go_wp2_with fail
  refine (find_any HR.out (by omega) k).mono ?_
  rintro e w1 ⟨rfl, hb1⟩
  go_wp2
  go_ret
  exact ⟨by simp [HI.out], hb1⟩

set_option maxRecDepth 100000 in
theorem kghost_any {w : World} {b mb N most few : Nat} {vk vg : Value} {K G : List Int} {A : Int → Bool} (h : CkAt w b mb N vk vg most few K A G) (k : Int) :
    Calls Try.prog 31 #[.pointer (some ⟨b, 0, none⟩), .int .i64 k] w fun e w' => e = .returned (.bool (decide (k ∈ G))) ∧ Below w.heap.size w w' := by
  have g2 := cell_of_block h.str 4
  simp at g2
  have HR := Lib.hid h.gs.rd
  have hle := h.gle
  obtain ⟨ao, c, rfl⟩ := h.gs.rd.nil_iff
  clear h
  have HI := Lib.hid (idx_ge (l := G) (k := k))
  go_enter Try.func31, Try.ntmps31
  go_wp2_with fail
  refine (find_any HR.out (by omega) k).mono ?_
  rintro e w1 ⟨rfl, hb1⟩
  go_wp2
  go_ret
  exact ⟨by simp [HI.out], hb1⟩

/-- What Touch answers. -/
def touchC (K : List Int) (k : Int) : Int := if k ∈ K then 0 else 14
theorem CkGood.touch {most few : Nat} {K G : List Int} {A : Int → Bool} (h : CkGood most few K A G) {k : Int} (hk : k ∈ K) : CkGood most few K (updB A k true) G := by
  have ha : ∀ x, updB A k true x = true → x ∈ K := by
    intro x hx
    by_cases e : x = k
    · exact e ▸ hk
    · simp only [updB, if_neg e] at hx; exact h.ask x hx
  exact { h with ask := ha }

set_option maxRecDepth 100000 in
theorem ktouch_any {w : World} {b mb N most few : Nat} {vk vg : Value} {K G : List Int} {A : Int → Bool} (h : CkAt w b mb N vk vg most few K A G) (k : Int) (hN : N < maxLen) :
    Calls Try.prog 37 #[.pointer (some ⟨b, 0, none⟩), .int .i64 k] w fun e w' => e = .returned (.int .i64 (touchC K k)) ∧
      CkAt w' b mb (N + 1) vk vg most few K (if k ∈ K then updB A k true else A) G ∧ Upd (fun j => j = mb) w w' := by
  have H := Lib.hid h
  have HR := Lib.hid h.ks.rd
  have hle := h.kle
  have g2 := cell_of_block h.str 2
  have g3 := cell_of_block h.str 3
  simp at g2 g3
  have hblt := h.blt
  by_cases hk : k ∈ K
  · obtain ⟨i, hi, hix, _⟩ := idx_in hk
    obtain ⟨ao, c, rfl⟩ := h.ks.rd.nil_iff
    have e1 : touchC K k = 0 := if_pos hk
    rw [e1, if_pos hk]
    have HK := Lib.hid hk
    clear h e1 hk
    have q : decide ((i : Int) < 0) = false := by simp only [decide_eq_false_iff_not]; omega
    go_enter Try.func37, Try.ntmps37
    go_wp2_with fail
    refine (find_any HR.out (by omega) k).mono ?_
    rintro e w1 ⟨rfl, hb1⟩
    rw [hix]
    have H1 := Lib.hid (H.out.below hb1)
    have k3 := (hb1.cell (p := ⟨b, 3, none⟩) hblt).trans g3
    obtain ⟨w2, hrun, hs2, hu2, hz2⟩ := SetAt.store H1.out.set (x := k) (H.out.good.kr k HK.out) hN
    have S2 := Lib.hid (And.intro hs2 (And.intro hu2 hz2))
    have B1 := Lib.hid hb1
    clear hs2 hu2 hz2 hb1
    go_wp2
    go_ret
    refine ⟨rfl, ?_, (Upd.of_below B1.out).trans (S2.out.2.1)⟩
    exact { H1.out with
      str := (S2.out.2.1.block b H1.out.blt H1.out.bm.symm).trans H1.out.str
      ks := H1.out.ks.keep S2.out.2.1 (fun g hg e => H1.out.km (by rw [hg, e]))
      gs := H1.out.gs.keep S2.out.2.1 (fun g hg e => H1.out.gm (by rw [hg, e]))
      set := S2.out.1
      good := H1.out.good.touch HK.out }
  · have hix := idx_out hk
    obtain ⟨ao, c, rfl⟩ := h.ks.rd.nil_iff
    have e1 : touchC K k = 14 := if_neg hk
    rw [e1, if_neg hk]
    clear h e1 hk
    go_enter Try.func37, Try.ntmps37
    go_wp2_with fail
    refine (find_any HR.out (by omega) k).mono ?_
    rintro e w1 ⟨rfl, hb1⟩
    rw [hix]
    go_wp2
    go_ret
    exact ⟨rfl, (H.out.below hb1).mono (by omega), Upd.of_below hb1⟩
end Go.Proofs.Ytmgcekpfnkcmjaa
