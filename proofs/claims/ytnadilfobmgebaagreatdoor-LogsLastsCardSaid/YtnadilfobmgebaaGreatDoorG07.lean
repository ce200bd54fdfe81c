/- The clock: what it is in memory; New, Has, Ghost, Len, Touch. The clock: steps of its state; Add, Drop. -/
import Derived.Test.YtnadilfobmgebaaGreatDoorG06
namespace Go.Proofs.YtnadilfobmgebaaGreatDoor
open Go Go.RowKit
structure CkGood (most few : Nat) (K : List Int) (A : Int → Bool) (G : List Int) : Prop where
  kr : ∀ x ∈ K, InR x
  gr : ∀ x ∈ G, InR x
  kd : K.Nodup
  gd : G.Nodup
  dis : ∀ x ∈ K, x ∉ G
  ask : ∀ x, A x = true → x ∈ K
  kl : K.length ≤ most
  gl : G.length ≤ few
  ml : most ≤ 1024
  fl : few ≤ 1024
  m1 : 1 ≤ most
structure CkMem (w : World) (b mb N : Nat) (vk vg : Value) (most few : Nat) (K : List Int) (A : Int → Bool) (G : List Int) : Prop where
  str : w.heap[b]? = some (.cells #[.int .i64 most, .int .i64 few, vk, .map (some mb), vg] 293 (0, 0))
  ks : Sl w 3 1 vk K.length (ints K)
  gs : Sl w 3 1 vg G.length (ints G)
  set : SetAt w mb N A
  kb : vk.ownBlock ≠ some b
  gb : vg.ownBlock ≠ some b
  km : vk.ownBlock ≠ some mb
  gm : vg.ownBlock ≠ some mb
  bm : mb ≠ b
  kg : Dis vk vg
structure CkAt (w : World) (b mb N : Nat) (vk vg : Value) (most few : Nat) (K : List Int) (A : Int → Bool) (G : List Int) : Prop extends CkMem w b mb N vk vg most few K A G where
  good : CkGood most few K A G
def ckS (b mb : Nat) (vk vg : Value) : Nat → Prop := fun j => j = b ∨ j = mb ∨ vk.ownBlock = some j ∨ vg.ownBlock = some j
section
variable {w w' : World} {b mb N most few : Nat} {vk vg : Value} {K G : List Int} {A : Int → Bool}
theorem CkMem.keep (h : CkMem w b mb N vk vg most few K A G) {S : Nat → Prop} (hu : Upd S w w') (hs : ∀ j, ckS b mb vk vg j → ¬ S j) : CkMem w' b mb N vk vg most few K A G :=
  { h with
    str := (hu.block _ (lt_of_block h.str) (hs b (.inl rfl))).trans h.str
    ks := h.ks.keep hu (fun g hg => hs g (.inr (.inr (.inl hg))))
    gs := h.gs.keep hu (fun g hg => hs g (.inr (.inr (.inr hg))))
    set := SetAt.keep h.set hu (hs mb (.inr (.inl rfl))) }
theorem CkMem.below (h : CkMem w b mb N vk vg most few K A G) (hb : Below w.heap.size w w') : CkMem w' b mb N vk vg most few K A G :=
  h.keep (Upd.of_below (S := fun _ => False) hb) (fun _ _ h => h)
theorem CkAt.keep (h : CkAt w b mb N vk vg most few K A G) {S : Nat → Prop} (hu : Upd S w w') (hs : ∀ j, ckS b mb vk vg j → ¬ S j) : CkAt w' b mb N vk vg most few K A G :=
  { h with
    str := (hu.block _ (lt_of_block h.str) (hs b (.inl rfl))).trans h.str
    ks := h.ks.keep hu (fun g hg => hs g (.inr (.inr (.inl hg))))
    gs := h.gs.keep hu (fun g hg => hs g (.inr (.inr (.inr hg))))
    set := SetAt.keep h.set hu (hs mb (.inr (.inl rfl))) }
theorem CkAt.below (h : CkAt w b mb N vk vg most few K A G) (hb : Below w.heap.size w w') : CkAt w' b mb N vk vg most few K A G :=
  h.keep (Upd.of_below (S := fun _ => False) hb) (fun _ _ h => h)
theorem CkAt.mono (h : CkAt w b mb N vk vg most few K A G) {N' : Nat} (hn : N ≤ N') : CkAt w b mb N' vk vg most few K A G := { h with set := h.set.mono hn }
theorem CkAt.blt (h : CkAt w b mb N vk vg most few K A G) : b < w.heap.size := lt_of_block h.str
theorem CkAt.slt (h : CkAt w b mb N vk vg most few K A G) : ∀ j, ckS b mb vk vg j → j < w.heap.size := by
  rintro j (rfl | rfl | hj | hj)
  · exact h.blt
  · exact h.set.lt
  · exact h.ks.lt hj
  · exact h.gs.lt hj
end
theorem CkGood.start {m f : Nat} (h1 : 1 ≤ m) (h2 : m ≤ 1024) (h3 : f ≤ 1024) : CkGood m f [] (fun _ => false) [] :=
  { kr := by simp, gr := by simp, kd := by simp, gd := by simp, dis := by simp, ask := by simp, kl := by simp, gl := by simp, ml := h2, fl := h3, m1 := h1 }
set_option maxRecDepth 100000 in
theorem knew_ok (m f : Nat) (w : World) (h1 : 1 ≤ m) (h2 : m ≤ 1024) (h3 : f ≤ 1024) :
    Calls Tryz.prog 154 #[.int .i64 m, .int .i64 f] w fun e w' => ∃ b mb, e = .returned (.tuple #[.pointer (some ⟨b, 0, none⟩), .int .i64 0]) ∧
      CkAt w' b mb 0 (.slice none 0 0) (.slice none 0 0) m f [] (fun _ => false) [] ∧ w.heap.size ≤ b ∧ w.heap.size ≤ mb ∧ Below w.heap.size w w' := by
  have hmm := @run_makeMap Tryz.prog
  have q1 : ¬ ((m : Int) < 1) := by omega
  have q2 : ¬ ((1024 : Int) < m) := by omega
  have q3 : ¬ ((f : Int) < 0) := by omega
  have q4 : ¬ ((1024 : Int) < f) := by omega
  have HM := Lib.hid (And.intro h1 (And.intro h2 h3))
  clear h1 h2 h3
  go_enter Tryz.func154, Tryz.ntmps154
  go_wp2
  go_ret2
  have hU := Upd.alloc (Upd.refl (fun _ => False) w) (.map #[] 0)
  have hz : (w.alloc (.map #[] 0)).heap.size = w.heap.size + 1 := by simp
  refine ⟨w.heap.size + 1, rfl, w.heap.size, ⟨⟨heap_alloc_last _ _ hz.symm, Sl.nil _ _ _, Sl.nil _ _ _, (SetAt.made w).keep (Upd.alloc (Upd.refl (fun _ => False) _) _) (fun h => h), by simp [Value.ownBlock], by simp [Value.ownBlock], by simp [Value.ownBlock], by simp [Value.ownBlock], by omega, Dis.nil _ _ _⟩, CkGood.start HM.out.1 HM.out.2.1 HM.out.2.2⟩, by omega, Nat.le_refl _, (hU.alloc _).below⟩
section
variable {w w' w2 : World} {b mb N most few : Nat} {vk vg v2 : Value} {K G K' G' : List Int} {A A' : Int → Bool}
theorem CkMem.c (h : CkMem w b mb N vk vg most few K A G) : w.cell? ⟨b, 0, none⟩ = some (.int .i64 most) ∧ w.cell? ⟨b, 1, none⟩ = some (.int .i64 few) ∧ w.cell? ⟨b, 2, none⟩ = some vk ∧
    w.cell? ⟨b, 3, none⟩ = some (.map (some mb)) ∧ w.cell? ⟨b, 4, none⟩ = some vg := by
  refine ⟨?_, ?_, ?_, ?_, ?_⟩ <;> rw [cell_of_block h.str] <;> rfl
theorem CkMem.fz (h : CkMem w b mb N vk vg most few K A G) (i : Nat) : w.frozen? ⟨b, i, none⟩ = false := frozen_of_block h.str i
end
def Ck (S : Nat → Prop) (w : World) (b N most few : Nat) (K : List Int) (A : Int → Bool) (G : List Int) : Prop :=
  ∃ mb vk vg, CkAt w b mb N vk vg most few K A G ∧ ∀ j, ckS b mb vk vg j → S j
section
variable {S : Nat → Prop} {w w' w2 : World} {b N most few : Nat} {K G : List Int} {A : Int → Bool}
theorem Ck.keep (h : Ck S w b N most few K A G) {T : Nat → Prop} (hu : Upd T w w') (hs : ∀ j, S j → ¬ T j) : Ck S w' b N most few K A G := by
  obtain ⟨mb, vk, vg, h, hS⟩ := h
  exact ⟨mb, vk, vg, h.keep hu (fun j hj => hs j (hS j hj)), hS⟩
theorem Ck.new (h : Ck S w b N most few K A G) (hu : Upd (fun _ => False) w w') : Ck S w' b N most few K A G := h.keep hu (fun _ _ h => h)
theorem Ck.below (h : Ck S w b N most few K A G) (hb : Below w.heap.size w w') : Ck S w' b N most few K A G := h.new (Upd.of_below hb)
theorem Ck.mono (h : Ck S w b N most few K A G) {N' : Nat} (hn : N ≤ N') : Ck S w b N' most few K A G := by
  obtain ⟨mb, vk, vg, h, hS⟩ := h
  exact ⟨mb, vk, vg, h.mono hn, hS⟩
theorem Ck.out (h : Ck S w b N most few K A G) {S' : Nat → Prop} (hs : ∀ j, j < w.heap.size → S j → S' j) : Ck S' w b N most few K A G := by
  obtain ⟨mb, vk, vg, h, hS⟩ := h
  exact ⟨mb, vk, vg, h, fun j hj => hs j (h.slt j hj) (hS j hj)⟩
theorem Ck.good (h : Ck S w b N most few K A G) : CkGood most few K A G := by obtain ⟨mb, vk, vg, h, hS⟩ := h; exact h.good
end
section
variable {most few : Nat} {K G : List Int} {A : Int → Bool}
theorem CkGood.push (h : CkGood most few K A G) {k : Int} (hk : k ∉ K) (hl : K.length ≠ most) (hG : k ∉ G) (hr : InR k) : CkGood most few (K ++ [k]) A G := {
  kr := by intro x hx; rcases List.mem_append.1 hx with h1 | h1; exact h.kr x h1; simp at h1; exact h1 ▸ hr
  gr := h.gr
  kd := by rw [List.nodup_append]; exact ⟨h.kd, by simp, by intro x hx y hy e; simp at hy; subst hy; exact hk (e ▸ hx)⟩
  gd := h.gd
  dis := by intro x hx; rcases List.mem_append.1 hx with h1 | h1; exact h.dis x h1; simp at h1; exact h1 ▸ hG
  ask := fun x hx => List.mem_append.2 (.inl (h.ask x hx))
  kl := by have := h.kl; simp; omega
  gl := h.gl
  ml := h.ml
  fl := h.fl
  m1 := h.m1 }
theorem CkGood.drop (h : CkGood most few K A G) (k : Int) : CkGood most few (K.erase k) (updB A k false) G := {
  kr := fun x hx => h.kr x (List.mem_of_mem_erase hx)
  gr := h.gr
  kd := h.kd.erase k
  gd := h.gd
  dis := fun x hx => h.dis x (List.mem_of_mem_erase hx)
  ask := fun x hx => by
    by_cases e : x = k
    · subst e; simp [updB] at hx
    · simp only [updB, if_neg e] at hx
      exact (List.mem_erase_of_ne e).2 (h.ask x hx)
  kl := Nat.le_trans (List.length_erase_le) h.kl
  gl := h.gl
  ml := h.ml
  fl := h.fl
  m1 := h.m1 }
theorem CkGood.erase (h : CkGood most few K A G) (k : Int) : CkGood most few K A (G.erase k) := { h with
  gr := fun x hx => h.gr x (List.mem_of_mem_erase hx)
  gd := h.gd.erase k
  dis := fun x hx hg => h.dis x hx (List.mem_of_mem_erase hg)
  gl := Nat.le_trans (List.length_erase_le) h.gl }
end
theorem knew_ck {S : Nat → Prop} (m f : Nat) (w : World) (h1 : 1 ≤ m) (h2 : m ≤ 1024) (h3 : f ≤ 1024) (hn : ∀ j, w.heap.size ≤ j → S j) :
    Calls Tryz.prog 154 #[.int .i64 m, .int .i64 f] w fun e w' => ∃ b, e = .returned (.tuple #[.pointer (some ⟨b, 0, none⟩), .int .i64 0]) ∧
      Ck S w' b 0 m f [] (fun _ => false) [] ∧ w.heap.size ≤ b ∧ Below w.heap.size w w' := by
  refine (knew_ok m f w h1 h2 h3).mono ?_
  rintro e w' ⟨b, mb, rfl, hc, hb, hmb, hB⟩
  refine ⟨b, rfl, ⟨mb, _, _, hc, ?_⟩, hb, hB⟩
  rintro j (rfl | rfl | hj | hj)
  · exact hn _ hb
  · exact hn _ hmb
  · cases hj
  · cases hj
end Go.Proofs.YtnadilfobmgebaaGreatDoor
