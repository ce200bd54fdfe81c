/- The clock: what it is in memory; New, Has, Ghost, Len, Touch. The clock: steps of its state; Add, Drop. Slots: contracts of the code's functions, and of the document's. -/
import Derived.Test.YtfhfbpmlnjdfoaaGreatDoorG04
import Derived.Test.YtfhfbpmlnjdfoaaGreatDoorG03
namespace Go.Proofs.YtfhfbpmlnjdfoaaGreatDoor
open Go Go.RowKit
structure CkGood (most few : Nat) (K : List Int) (A : Int → Bool) (G : List Int) : Prop where
  kr : ∀ x ∈ K, InR x
  gr : ∀ x ∈ G, InR x
  kd : K.Nodup
  gd : G.Nodup
  dis : ∀ x ∈ K, x ∉ G
  ask : ∀ x, A x = true → x ∈ K
  kl : K.length ≤ most
  gl : G.length ≤ few
  ml : most ≤ 1024
  fl : few ≤ 1024
  m1 : 1 ≤ most
structure CkMem (w : World) (b mb N : Nat) (vk vg : Value) (most few : Nat) (K : List Int) (A : Int → Bool) (G : List Int) : Prop where
  str : w.heap[b]? = some (.cells #[.int .i64 most, .int .i64 few, vk, .map (some mb), vg] 333 (0, 0))
  ks : Sl w 3 1 vk K.length (ints K)
  gs : Sl w 3 1 vg G.length (ints G)
  set : SetAt w mb N A
  kb : vk.ownBlock ≠ some b
  gb : vg.ownBlock ≠ some b
  km : vk.ownBlock ≠ some mb
  gm : vg.ownBlock ≠ some mb
  bm : mb ≠ b
  kg : Dis vk vg
structure CkAt (w : World) (b mb N : Nat) (vk vg : Value) (most few : Nat) (K : List Int) (A : Int → Bool) (G : List Int) : Prop extends CkMem w b mb N vk vg most few K A G where
  good : CkGood most few K A G
def ckS (b mb : Nat) (vk vg : Value) : Nat → Prop := fun j => j = b ∨ j = mb ∨ vk.ownBlock = some j ∨ vg.ownBlock = some j
section
variable {w w' : World} {b mb N most few : Nat} {vk vg : Value} {K G : List Int} {A : Int → Bool}
theorem CkMem.keep (h : CkMem w b mb N vk vg most few K A G) {S : Nat → Prop} (hu : Upd S w w') (hs : ∀ j, ckS b mb vk vg j → ¬ S j) : CkMem w' b mb N vk vg most few K A G :=
  { h with
    str := (hu.block _ (lt_of_block h.str) (hs b (.inl rfl))).trans h.str
    ks := h.ks.keep hu (fun g hg => hs g (.inr (.inr (.inl hg))))
    gs := h.gs.keep hu (fun g hg => hs g (.inr (.inr (.inr hg))))
    set := SetAt.keep h.set hu (hs mb (.inr (.inl rfl))) }
theorem CkMem.below (h : CkMem w b mb N vk vg most few K A G) (hb : Below w.heap.size w w') : CkMem w' b mb N vk vg most few K A G :=
  h.keep (Upd.of_below (S := fun _ => False) hb) (fun _ _ h => h)
theorem CkAt.keep (h : CkAt w b mb N vk vg most few K A G) {S : Nat → Prop} (hu : Upd S w w') (hs : ∀ j, ckS b mb vk vg j → ¬ S j) : CkAt w' b mb N vk vg most few K A G :=
  { h with
    str := (hu.block _ (lt_of_block h.str) (hs b (.inl rfl))).trans h.str
    ks := h.ks.keep hu (fun g hg => hs g (.inr (.inr (.inl hg))))
    gs := h.gs.keep hu (fun g hg => hs g (.inr (.inr (.inr hg))))
    set := SetAt.keep h.set hu (hs mb (.inr (.inl rfl))) }
theorem CkAt.below (h : CkAt w b mb N vk vg most few K A G) (hb : Below w.heap.size w w') : CkAt w' b mb N vk vg most few K A G :=
  h.keep (Upd.of_below (S := fun _ => False) hb) (fun _ _ h => h)
theorem CkAt.mono (h : CkAt w b mb N vk vg most few K A G) {N' : Nat} (hn : N ≤ N') : CkAt w b mb N' vk vg most few K A G := { h with set := h.set.mono hn }
theorem CkAt.blt (h : CkAt w b mb N vk vg most few K A G) : b < w.heap.size := lt_of_block h.str
theorem CkAt.slt (h : CkAt w b mb N vk vg most few K A G) : ∀ j, ckS b mb vk vg j → j < w.heap.size := by
  rintro j (rfl | rfl | hj | hj)
  · exact h.blt
  · exact h.set.lt
  · exact h.ks.lt hj
  · exact h.gs.lt hj
theorem CkAt.kle (h : CkAt w b mb N vk vg most few K A G) : K.length ≤ 1024 := Nat.le_trans h.good.kl h.good.ml
theorem CkAt.gle (h : CkAt w b mb N vk vg most few K A G) : G.length ≤ 1024 := Nat.le_trans h.good.gl h.good.fl
end
theorem CkGood.start {m f : Nat} (h1 : 1 ≤ m) (h2 : m ≤ 1024) (h3 : f ≤ 1024) : CkGood m f [] (fun _ => false) [] :=
  { kr := by simp, gr := by simp, kd := by simp, gd := by simp, dis := by simp, ask := by simp, kl := by simp, gl := by simp, ml := h2, fl := h3, m1 := h1 }
theorem idx_in {l : List Int} {k : Int} (h : k ∈ l) : ∃ i : Nat, ∃ hi : i < l.length, idxI l k = i ∧ l[i] = k ∧ ∀ j (hj : j < l.length), j < i → l[j] ≠ k := by
  unfold idxI
  cases hf : l.findIdx? (· == k) with
  | none =>
    rw [List.findIdx?_eq_none_iff] at hf
    have := hf k h
    simp at this
  | some i =>
    rw [List.findIdx?_eq_some_iff_getElem] at hf
    obtain ⟨hi, he, hb⟩ := hf
    exact ⟨i, hi, rfl, by simpa using he, fun j _ hji => by simpa using hb j hji⟩
theorem idx_out {l : List Int} {k : Int} (h : k ∉ l) : idxI l k = -1 := idxI_none (fun _ hj e => h (e ▸ List.getElem_mem hj))
set_option maxRecDepth 100000 in
theorem knew_ok (m f : Nat) (w : World) (h1 : 1 ≤ m) (h2 : m ≤ 1024) (h3 : f ≤ 1024) :
    Calls Tryz.prog 135 #[.int .i64 m, .int .i64 f] w fun e w' => ∃ b mb, e = .returned (.tuple #[.pointer (some ⟨b, 0, none⟩), .int .i64 0]) ∧
      CkAt w' b mb 0 (.slice none 0 0) (.slice none 0 0) m f [] (fun _ => false) [] ∧ w.heap.size ≤ b ∧ w.heap.size ≤ mb ∧ Below w.heap.size w w' := by
  have hmm := @run_makeMap Tryz.prog
  have q1 : ¬ ((m : Int) < 1) := by omega
  have q2 : ¬ ((1024 : Int) < m) := by omega
  have q3 : ¬ ((f : Int) < 0) := by omega
  have q4 : ¬ ((1024 : Int) < f) := by omega
  have HM := Lib.hid (And.intro h1 (And.intro h2 h3))
  clear h1 h2 h3
  go_enter Tryz.func135, Tryz.ntmps135
  go_wp2
  go_ret2
  have hU := Upd.alloc (Upd.refl (fun _ => False) w) (.map #[] 0)
  have hz : (w.alloc (.map #[] 0)).heap.size = w.heap.size + 1 := by simp
  refine ⟨w.heap.size + 1, rfl, w.heap.size, ⟨⟨heap_alloc_last _ _ hz.symm, Sl.nil _ _ _, Sl.nil _ _ _, (SetAt.made w).keep (Upd.alloc (Upd.refl (fun _ => False) _) _) (fun h => h), by simp [Value.ownBlock], by simp [Value.ownBlock], by simp [Value.ownBlock], by simp [Value.ownBlock], by omega, Dis.nil _ _ _⟩, CkGood.start HM.out.1 HM.out.2.1 HM.out.2.2⟩, by omega, Nat.le_refl _, (hU.alloc _).below⟩
def touchC (K : List Int) (k : Int) : Int := if k ∈ K then 0 else 14
theorem CkGood.touch {most few : Nat} {K G : List Int} {A : Int → Bool} (h : CkGood most few K A G) {k : Int} (hk : k ∈ K) : CkGood most few K (updB A k true) G := by
  have ha : ∀ x, updB A k true x = true → x ∈ K := by
    intro x hx
    by_cases e : x = k
    · exact e ▸ hk
    · simp only [updB, if_neg e] at hx; exact h.ask x hx
  exact { h with ask := ha }
set_option maxRecDepth 100000 in
theorem ktouch_any {w : World} {b mb N most few : Nat} {vk vg : Value} {K G : List Int} {A : Int → Bool} (h : CkAt w b mb N vk vg most few K A G) (k : Int) (hN : N < maxLen) :
    Calls Tryz.prog 325 #[.pointer (some ⟨b, 0, none⟩), .int .i64 k] w fun e w' => e = .returned (.int .i64 (touchC K k)) ∧
      CkAt w' b mb (N + 1) vk vg most few K (if k ∈ K then updB A k true else A) G ∧ Upd (fun j => j = mb) w w' := by
  have H := Lib.hid h
  have HR := Lib.hid h.ks.rd
  have hle := h.kle
  have g2 := cell_of_block h.str 2
  have g3 := cell_of_block h.str 3
  simp at g2 g3
  have hblt := h.blt
  by_cases hk : k ∈ K
  · obtain ⟨i, hi, hix, _⟩ := idx_in hk
    obtain ⟨ao, c, rfl⟩ := h.ks.rd.nil_iff
    have e1 : touchC K k = 0 := if_pos hk
    rw [e1, if_pos hk]
    have HK := Lib.hid hk
    clear h e1 hk
    have q : decide ((i : Int) < 0) = false := by simp only [decide_eq_false_iff_not]; omega
    go_enter Tryz.func325, Tryz.ntmps325
    go_wp2_with fail
    refine (find_any HR.out (by omega) k).mono ?_
    rintro e w1 ⟨rfl, hb1⟩
    rw [hix]
    have H1 := Lib.hid (H.out.below hb1)
    have k3 := (hb1.cell (p := ⟨b, 3, none⟩) hblt).trans g3
    obtain ⟨w2, hrun, hs2, hu2, hz2⟩ := SetAt.store H1.out.set (x := k) (H.out.good.kr k HK.out) hN
    have S2 := Lib.hid (And.intro hs2 (And.intro hu2 hz2))
    have B1 := Lib.hid hb1
    clear hs2 hu2 hz2 hb1
    go_wp2
    go_ret
    refine ⟨rfl, ?_, (Upd.of_below B1.out).trans (S2.out.2.1)⟩
    exact { H1.out with
      str := (S2.out.2.1.block b H1.out.blt H1.out.bm.symm).trans H1.out.str
      ks := H1.out.ks.keep S2.out.2.1 (fun g hg e => H1.out.km (by rw [hg, e]))
      gs := H1.out.gs.keep S2.out.2.1 (fun g hg e => H1.out.gm (by rw [hg, e]))
      set := S2.out.1
      good := H1.out.good.touch HK.out }
  · have hix := idx_out hk
    obtain ⟨ao, c, rfl⟩ := h.ks.rd.nil_iff
    have e1 : touchC K k = 14 := if_neg hk
    rw [e1, if_neg hk]
    clear h e1 hk
    go_enter Tryz.func325, Tryz.ntmps325
    go_wp2_with fail
    refine (find_any HR.out (by omega) k).mono ?_
    rintro e w1 ⟨rfl, hb1⟩
    rw [hix]
    go_wp2
    go_ret
    exact ⟨rfl, (H.out.below hb1).mono (by omega), Upd.of_below hb1⟩
section
variable {w w' w2 : World} {b mb N most few : Nat} {vk vg v2 : Value} {K G K' G' : List Int} {A A' : Int → Bool}
theorem CkMem.c (h : CkMem w b mb N vk vg most few K A G) : w.cell? ⟨b, 0, none⟩ = some (.int .i64 most) ∧ w.cell? ⟨b, 1, none⟩ = some (.int .i64 few) ∧ w.cell? ⟨b, 2, none⟩ = some vk ∧
    w.cell? ⟨b, 3, none⟩ = some (.map (some mb)) ∧ w.cell? ⟨b, 4, none⟩ = some vg := by
  refine ⟨?_, ?_, ?_, ?_, ?_⟩ <;> rw [cell_of_block h.str] <;> rfl
theorem CkMem.fz (h : CkMem w b mb N vk vg most few K A G) (i : Nat) : w.frozen? ⟨b, i, none⟩ = false := frozen_of_block h.str i
theorem kfrom_ne {w : World} {v v' : Value} {x : Nat} (h : blockFrom w v v') (hv : v.ownBlock ≠ some x) (hx : x < w.heap.size) : v'.ownBlock ≠ some x := by
  intro e
  rcases h with h | ⟨g, h, hg⟩
  · exact hv (by rw [← h, e])
  · rw [h] at e; cases e; omega
theorem CkMem.setKeys (h : CkMem w b mb N vk vg most few K A G) (hu : Upd (ownS vk) w w2) (h2 : Sl w2 3 1 v2 K'.length (ints K')) (hbf : blockFrom w vk v2) :
    CkMem (w2.setCell ⟨b, 2, none⟩ v2) b mb N v2 vg most few K' A G := by
  have hb2 : v2.ownBlock ≠ some b := kfrom_ne hbf h.kb (lt_of_block h.str)
  have hm2 : v2.ownBlock ≠ some mb := kfrom_ne hbf h.km h.set.lt
  have hstr : w2.heap[b]? = _ := (hu.block b (lt_of_block h.str) (fun e => h.kb e)).trans h.str
  exact {
    str := heap_setCell_same hstr 2 v2
    ks := h2.keep_ne (upd_setCell _ _ _ _) hb2
    gs := (h.gs.keep_dis h.kg.symm hu).keep_ne (upd_setCell _ _ _ _) h.gb
    set := (h.set.keep hu (fun e => h.km e)).keep (upd_setCell _ _ _ _) h.bm
    kb := hb2
    gb := h.gb
    km := hm2
    gm := h.gm
    bm := h.bm
    kg := h.kg.from hbf (fun g hg => h.gs.lt hg) }
theorem CkMem.updKeys (_ : CkMem w b mb N vk vg most few K A G) (hu : Upd (ownS vk) w w2) : Upd (ckS b mb vk vg) w (w2.setCell ⟨b, 2, none⟩ v2) :=
  (hu.mono (fun _k _ hk => .inr (.inr (.inl hk)))).trans (Upd.mono (upd_setCell _ _ _ _) (fun _k _ hk => .inl hk))
theorem CkMem.setGhosts (h : CkMem w b mb N vk vg most few K A G) (hu : Upd (ownS vg) w w2) (h2 : Sl w2 3 1 v2 G'.length (ints G')) (hbf : blockFrom w vg v2) :
    CkMem (w2.setCell ⟨b, 4, none⟩ v2) b mb N vk v2 most few K A G' := by
  have hb2 : v2.ownBlock ≠ some b := kfrom_ne hbf h.gb (lt_of_block h.str)
  have hm2 : v2.ownBlock ≠ some mb := kfrom_ne hbf h.gm h.set.lt
  have hstr : w2.heap[b]? = _ := (hu.block b (lt_of_block h.str) (fun e => h.gb e)).trans h.str
  exact {
    str := heap_setCell_same hstr 4 v2
    ks := (h.ks.keep_dis h.kg hu).keep_ne (upd_setCell _ _ _ _) h.kb
    gs := h2.keep_ne (upd_setCell _ _ _ _) hb2
    set := (h.set.keep hu (fun e => h.gm e)).keep (upd_setCell _ _ _ _) h.bm
    kb := h.kb
    gb := hb2
    km := h.km
    gm := hm2
    bm := h.bm
    kg := (h.kg.symm.from hbf (fun g hg => h.ks.lt hg)).symm }
theorem CkMem.updGhosts (_ : CkMem w b mb N vk vg most few K A G) (hu : Upd (ownS vg) w w2) : Upd (ckS b mb vk vg) w (w2.setCell ⟨b, 4, none⟩ v2) :=
  (hu.mono (fun _k _ hk => .inr (.inr (.inr hk)))).trans (Upd.mono (upd_setCell _ _ _ _) (fun _k _ hk => .inl hk))
theorem CkMem.setAsked (h : CkMem w b mb N vk vg most few K A G) {N' : Nat} (hu : Upd (fun j => j = mb) w w2) (h2 : SetAt w2 mb N' A') : CkMem w2 b mb N' vk vg most few K A' G :=
  { h with
    str := (hu.block b (lt_of_block h.str) h.bm.symm).trans h.str
    ks := h.ks.keep hu (fun g hg e => h.km (by rw [hg, e]))
    gs := h.gs.keep hu (fun g hg e => h.gm (by rw [hg, e]))
    set := h2 }
end
def Ck (S : Nat → Prop) (w : World) (b N most few : Nat) (K : List Int) (A : Int → Bool) (G : List Int) : Prop :=
  ∃ mb vk vg, CkAt w b mb N vk vg most few K A G ∧ ∀ j, ckS b mb vk vg j → S j
section
variable {S : Nat → Prop} {w w' w2 : World} {b N most few : Nat} {K G : List Int} {A : Int → Bool}
theorem Ck.keep (h : Ck S w b N most few K A G) {T : Nat → Prop} (hu : Upd T w w') (hs : ∀ j, S j → ¬ T j) : Ck S w' b N most few K A G := by
  obtain ⟨mb, vk, vg, h, hS⟩ := h
  exact ⟨mb, vk, vg, h.keep hu (fun j hj => hs j (hS j hj)), hS⟩
theorem Ck.new (h : Ck S w b N most few K A G) (hu : Upd (fun _ => False) w w') : Ck S w' b N most few K A G := h.keep hu (fun _ _ h => h)
theorem Ck.below (h : Ck S w b N most few K A G) (hb : Below w.heap.size w w') : Ck S w' b N most few K A G := h.new (Upd.of_below hb)
theorem Ck.mono (h : Ck S w b N most few K A G) {N' : Nat} (hn : N ≤ N') : Ck S w b N' most few K A G := by
  obtain ⟨mb, vk, vg, h, hS⟩ := h
  exact ⟨mb, vk, vg, h.mono hn, hS⟩
theorem Ck.out (h : Ck S w b N most few K A G) {S' : Nat → Prop} (hs : ∀ j, j < w.heap.size → S j → S' j) : Ck S' w b N most few K A G := by
  obtain ⟨mb, vk, vg, h, hS⟩ := h
  exact ⟨mb, vk, vg, h, fun j hj => hs j (h.slt j hj) (hS j hj)⟩
end
theorem idxOf_erase {l : List Int} {k : Int} {i : Nat} (hi : i < l.length) (he : l[i] = k) (hb : ∀ j (h : j < l.length), j < i → l[j] ≠ k) : l.eraseIdx i = l.erase k := by
  induction l generalizing i with
  | nil => simp at hi
  | cons x l ih =>
    cases i with
    | zero =>
      have he' : x = k := he
      subst he'; simp
    | succ i =>
      have hx : x ≠ k := hb 0 (by simp) (by omega)
      rw [List.eraseIdx_cons_succ, List.erase_cons_tail (by simpa using hx), ih (by simpa using hi) (by simpa using he) (fun j hj hji => hb (j + 1) (by simpa using hj) (by omega))]
def addC (most : Nat) (K : List Int) (k : Int) : Int := if k ∈ K then 15 else if K.length = most then 17 else 0
def addK (most : Nat) (K : List Int) (k : Int) : List Int := if k ∈ K ∨ K.length = most then K else K ++ [k]
def agA (A : Int → Bool) (G : List Int) (k : Int) : Int → Bool := if k ∈ G then updB A k true else A
def addA (most : Nat) (K : List Int) (A : Int → Bool) (G : List Int) (k : Int) : Int → Bool := if k ∈ K ∨ K.length = most then A else agA A G k
def addG (most : Nat) (K : List Int) (G : List Int) (k : Int) : List Int := if k ∈ K ∨ K.length = most then G else G.erase k
section
variable {most few : Nat} {K G : List Int} {A : Int → Bool}
theorem CkGood.push (h : CkGood most few K A G) {k : Int} (hk : k ∉ K) (hl : K.length ≠ most) (hG : k ∉ G) (hr : InR k) : CkGood most few (K ++ [k]) A G := {
  kr := by intro x hx; rcases List.mem_append.1 hx with h1 | h1; exact h.kr x h1; simp at h1; exact h1 ▸ hr
  gr := h.gr
  kd := by rw [List.nodup_append]; exact ⟨h.kd, by simp, by intro x hx y hy e; simp at hy; subst hy; exact hk (e ▸ hx)⟩
  gd := h.gd
  dis := by intro x hx; rcases List.mem_append.1 hx with h1 | h1; exact h.dis x h1; simp at h1; exact h1 ▸ hG
  ask := fun x hx => List.mem_append.2 (.inl (h.ask x hx))
  kl := by have := h.kl; simp; omega
  gl := h.gl
  ml := h.ml
  fl := h.fl
  m1 := h.m1 }
theorem CkGood.drop (h : CkGood most few K A G) (k : Int) : CkGood most few (K.erase k) (updB A k false) G := {
  kr := fun x hx => h.kr x (List.mem_of_mem_erase hx)
  gr := h.gr
  kd := h.kd.erase k
  gd := h.gd
  dis := fun x hx => h.dis x (List.mem_of_mem_erase hx)
  ask := fun x hx => by
    by_cases e : x = k
    · subst e; simp [updB] at hx
    · simp only [updB, if_neg e] at hx
      exact (List.mem_erase_of_ne e).2 (h.ask x hx)
  kl := Nat.le_trans (List.length_erase_le) h.kl
  gl := h.gl
  ml := h.ml
  fl := h.fl
  m1 := h.m1 }
theorem CkGood.erase (h : CkGood most few K A G) (k : Int) : CkGood most few K A (G.erase k) := { h with
  gr := fun x hx => h.gr x (List.mem_of_mem_erase hx)
  gd := h.gd.erase k
  dis := fun x hx hg => h.dis x hx (List.mem_of_mem_erase hg)
  gl := Nat.le_trans (List.length_erase_le) h.gl }
end
set_option maxRecDepth 100000 in
theorem kadd_no {S : Nat → Prop} {w : World} {b N most few : Nat} {K G : List Int} {A : Int → Bool} (h : Ck S w b N most few K A G) (k : Int) (hk : k ∈ K ∨ K.length = most) :
    Calls Tryz.prog 205 #[.pointer (some ⟨b, 0, none⟩), .int .i64 k] w fun e w' => e = .returned (.int .i64 (addC most K k)) ∧ Below w.heap.size w w' := by
  obtain ⟨mb, vk, vg, h, -⟩ := h
  have HR := Lib.hid h.ks.rd
  have hle := h.kle
  have hblt := h.blt
  obtain ⟨g0, -, g2, -, -⟩ := h.c
  obtain ⟨ao, c, rfl⟩ := h.ks.rd.nil_iff
  clear h
  by_cases hkK : k ∈ K
  · obtain ⟨i, hi, hix, _⟩ := idx_in hkK
    have e1 : addC most K k = 15 := if_pos hkK
    rw [e1]
    clear e1 hk hkK g0
    go_enter Tryz.func205, Tryz.ntmps205
    go_wp2_with fail
    refine (find_any HR.out (by omega) k).mono ?_
    rintro e w1 ⟨rfl, hb1⟩
    rw [hix]
    go_wp2
    go_ret
    exact ⟨rfl, hb1⟩
  · have hm : K.length = most := hk.resolve_left hkK
    have hix := idx_out hkK
    have e1 : addC most K k = 17 := by unfold addC; rw [if_neg hkK, if_pos hm]
    rw [e1]
    have q : ((K.length : Int) == (most : Int)) = true := by simp; omega
    clear e1 hk hkK hm
    go_enter Tryz.func205, Tryz.ntmps205
    go_wp2_with fail
    refine (find_any HR.out (by omega) k).mono ?_
    rintro e w1 ⟨rfl, hb1⟩
    rw [hix]
    have k0 := (hb1.cell (p := ⟨b, 0, none⟩) hblt).trans g0
    have k2 := (hb1.cell (p := ⟨b, 2, none⟩) hblt).trans g2
    go_wp2
    go_quiet (fail)
    go_wp2
    go_ret
    exact ⟨rfl, below_drewN hb1 _⟩
set_option maxRecDepth 100000 in
set_option maxHeartbeats 1000000 in
theorem kadd_yes {S : Nat → Prop} {w : World} {b N most few : Nat} {K G : List Int} {A : Int → Bool} (h : Ck S w b N most few K A G) (hn : ∀ j, w.heap.size ≤ j → S j) (k : Int) (hr : InR k) (hN : N < maxLen) (hk : k ∉ K) (hl : K.length ≠ most) :
    Calls Tryz.prog 205 #[.pointer (some ⟨b, 0, none⟩), .int .i64 k] w fun e w' => e = .returned (.int .i64 0) ∧
      Ck S w' b (N + 1) most few (K ++ [k]) (agA A G k) (G.erase k) ∧ Upd S w w' := by
  obtain ⟨i0, hi0, hz0, hz1, hz2⟩ := info_parts infoI07
  obtain ⟨mb, vk, vg, h, hS⟩ := h
  have HN := Lib.hid hn
  have HS := Lib.hid hS
  have HR := Lib.hid h.ks.rd
  have hle := h.kle
  have hgle := h.gle
  have hix := idx_out hk
  have HH := Lib.hid h
  have HK := Lib.hid (And.intro hk hl)
  obtain ⟨g0, -, g2, -, -⟩ := h.c
  have q : ((K.length : Int) == (most : Int)) = false := by simp; omega
  clear h hk hn hS hl
  go_enter Tryz.func205, Tryz.ntmps205
  go_wp2_with fail
  refine (find_any HR.out (by omega) k).mono ?_
  rintro e w1 ⟨rfl, hb1⟩
  rw [hix]
  have H1 := HH.out.below hb1
  have HU1 := Lib.hid (Upd.of_below (S := S) hb1)
  clear g0 g2 HR
  obtain ⟨g0, -, g2, -, -⟩ := H1.c
  obtain ⟨ao, c, hvk⟩ := H1.ks.rd.nil_iff
  have HV := Lib.hid hvk
  rw [hvk] at g2
  have H1 := Lib.hid H1
  clear hvk hb1 HH
  go_wp2
  go_quiet (fail)
  generalize hw2 : w1.drewN nq = w2
  have hu2 : Upd (fun _ => False) w1 w2 := by rw [← hw2]; exact (Upd.refl _ _).drewN nq
  have H2 := H1.out.keep hu2 (fun _ _ h => h)
  have HU2 := Lib.hid (HU1.out.trans (hu2.mono (fun _ _ h => h.elim)))
  clear hw2 hu2 g0 g2
  obtain ⟨-, -, g2, -, -⟩ := H2.c
  have H2 := Lib.hid H2
  go_wp2_with (at_builtin; refine wpList_append_one rfl _ _ 87 rfl i0 (.int .i64 0) 8 Tryz.underlying87 hi0 hz0 hz1 hz2 rfl (by decide) rfl H2.out.ks [.int .i64 k] rfl rfl (by intro u hu; simp at hu; subst hu; rfl) (by unfold maxLen; omega) (by omega) ?_)
  intro v3 w3 hs3 hu3 hbf3
  obtain ⟨ao3, p3, rfl⟩ := hs3.rd.nil_iff
  have hgood : Hid (∀ (hG : k ∉ G), CkGood most few (K ++ [k]) A G) := fun hG => H2.out.good.push HK.out.1 HK.out.2 hG hr
  have hs3' : Sl w3 3 1 (.slice ao3 (K.length + 1) p3) (K ++ [k]).length (ints (K ++ [k])) := by simpa using hs3
  have hstr3 := (hu3.block b H2.out.blt (fun e => H2.out.kb e)).trans H2.out.str
  have c2 := cell_of_block hstr3 2
  have c4 := cell_of_block hstr3 4
  have f2 := frozen_of_block hstr3 2
  simp at c2 c4
  have HG3 := Lib.hid (H2.out.gs.keep_dis H2.out.kg.symm hu3)
  have HG4 := Lib.hid ((HG3.out.keep_ne (upd_setCell w3 b 2 (.slice ao3 (K.length + 1) p3)) H2.out.gb).rd)
  have S3 := Lib.hid (And.intro hs3' (And.intro hu3 (And.intro hbf3 hstr3)))
  clear hs3 hs3' hu3 hbf3 hstr3
  go_wp2_with fail
  refine (find_any HG4.out (by omega) k).mono ?_
  rintro e w4 ⟨rfl, hb4⟩
  have HB4 := Lib.hid hb4
  have HU4 : Hid (Upd S w w4) := (HU2.out.trans ((CkMem.updKeys (v2 := .slice ao3 (K.length + 1) p3) H2.out.toCkMem S3.out.2.1).mono (fun j _ hj => HS.out j hj))).trans (Upd.of_below hb4)
  have hM : CkMem w4 b mb N (.slice ao3 (K.length + 1) p3) vg most few (K ++ [k]) A G := (H2.out.toCkMem.setKeys S3.out.2.1 S3.out.1 S3.out.2.2.1).below hb4
  have hz1 : w.heap.size ≤ w4.heap.size := HU4.out.size
  have hS4 : Hid (∀ j, ckS b mb (.slice ao3 (K.length + 1) p3) vg j → S j) := by
    intro j hj
    rcases hj with h1 | h1 | h1 | h1
    · exact HS.out j (.inl h1)
    · exact HS.out j (.inr (.inl h1))
    · rcases S3.out.2.2.1 with h2 | ⟨g, h2, h3⟩
      · exact HS.out j (.inr (.inr (.inl (by rw [← h2]; exact h1))))
      · rw [h2] at h1; cases h1
        exact HN.out _ (Nat.le_trans HU2.out.size h3)
    · exact HS.out j (.inr (.inr (.inr h1)))
  have HM := Lib.hid hM
  clear hb4 c2 c4 f2 HG3 HG4 hM
  by_cases hG : k ∈ G
  · obtain ⟨i, hi, hie, hiv, hib⟩ := idx_in hG
    rw [hie]
    have HE : Hid (G.eraseIdx i = G.erase k) := idxOf_erase hi hiv hib
    have c4 := cell_of_block HM.out.str 4
    simp at c4
    have HGG := Lib.hid hG
    clear hie hiv hib hG
    go_wp2_with fail
    refine (del_one HM.out.gs (by omega) hi).mono ?_
    rintro e w5 ⟨v5, rfl, hbe, hs5, hu5⟩
    obtain ⟨ao5, p5, rfl⟩ := hs5.rd.nil_iff
    have hM5 := HM.out.setGhosts hu5 hs5 (.inl hbe)
    have hU5 := HM.out.updGhosts (v2 := .slice ao5 (G.eraseIdx i).length p5) hu5
    have hstr5 := (hu5.block b (lt_of_block HM.out.str) (fun e => HM.out.gb e)).trans HM.out.str
    have c4 := cell_of_block hstr5 4
    have c3 := cell_of_block hstr5 3
    have f4 := frozen_of_block hstr5 4
    simp at c4 c3
    obtain ⟨w6, hrun, hs6, hu6, hz6⟩ := SetAt.store hM5.set (x := k) hr hN
    have HM6 := Lib.hid (hM5.setAsked hu6 hs6)
    have HU6 : Hid (Upd S w w6) := (HU4.out.trans (hU5.mono (fun j _ hj => hS4.out j hj))).trans (hu6.mono (fun j _ hj => by subst hj; exact hS4.out _ (.inr (.inl rfl))))
    have HB : Hid ((Value.slice ao5 (G.eraseIdx i).length p5).ownBlock = vg.ownBlock) := hbe
    clear hM5 hU5 hstr5 hs6 hu6 hz6 hs5 hu5 hbe
    go_wp2
    go_ret
    have hgd : CkGood most few (K ++ [k]) (agA A G k) (G.erase k) := by
      have h1 := (H2.out.good.erase k).push HK.out.1 HK.out.2 (fun e => absurd e H2.out.good.gd.not_mem_erase) hr
      unfold agA; rw [if_pos HGG.out]
      exact h1.touch (by simp)
    refine ⟨rfl, ⟨mb, .slice ao3 (K.length + 1) p3, .slice ao5 (G.erase k).length p5, ⟨?_, hgd⟩, ?_⟩, HU6.out⟩
    · have := HM6.out
      rw [HE.out] at this
      unfold agA; rw [if_pos HGG.out]
      exact this
    · intro j hj
      rcases hj with h1 | h1 | h1 | h1
      · exact hS4.out j (.inl h1)
      · exact hS4.out j (.inr (.inl h1))
      · exact hS4.out j (.inr (.inr (.inl h1)))
      · exact hS4.out j (.inr (.inr (.inr (by rw [← HB.out, HE.out]; exact h1))))
  · rw [idx_out hG]
    have HF : Hid (agA A G k = A ∧ G.erase k = G ∧ CkGood most few (K ++ [k]) A G) := ⟨if_neg hG, List.erase_of_not_mem hG, hgood.out hG⟩
    clear hG
    go_wp2
    go_ret
    rw [HF.out.1, HF.out.2.1]
    exact ⟨rfl, ⟨mb, _, vg, CkAt.mono ⟨HM.out, HF.out.2.2⟩ (by omega), hS4.out⟩, HU4.out⟩
theorem kadd_any {S : Nat → Prop} {w : World} {b N most few : Nat} {K G : List Int} {A : Int → Bool} (h : Ck S w b N most few K A G) (hn : ∀ j, w.heap.size ≤ j → S j) (k : Int) (hr : InR k) (hN : N < maxLen) :
    Calls Tryz.prog 205 #[.pointer (some ⟨b, 0, none⟩), .int .i64 k] w fun e w' => e = .returned (.int .i64 (addC most K k)) ∧
      Ck S w' b (N + 1) most few (addK most K k) (addA most K A G k) (addG most K G k) ∧ Upd S w w' := by
  by_cases hk : k ∈ K ∨ K.length = most
  · refine (kadd_no h k hk).mono ?_
    rintro e w' ⟨rfl, hb⟩
    unfold addK addA addG
    rw [if_pos hk, if_pos hk, if_pos hk]
    exact ⟨rfl, (h.below hb).mono (by omega), Upd.of_below hb⟩
  · have h1 : k ∉ K := fun e => hk (.inl e)
    have h2 : K.length ≠ most := fun e => hk (.inr e)
    refine (kadd_yes h hn k hr hN h1 h2).mono ?_
    rintro e w' ⟨rfl, hc, hu⟩
    unfold addC addK addA addG
    rw [if_neg hk, if_neg hk, if_neg hk, if_neg h1, if_neg h2]
    exact ⟨rfl, hc, hu⟩
def dropA (K : List Int) (A : Int → Bool) (k : Int) : Int → Bool := if k ∈ K then updB A k false else A
set_option maxRecDepth 100000 in
set_option maxHeartbeats 1000000 in
theorem kdrop_any {S : Nat → Prop} {w : World} {b N most few : Nat} {K G : List Int} {A : Int → Bool} (h : Ck S w b N most few K A G) (k : Int) :
    Calls Tryz.prog 298 #[.pointer (some ⟨b, 0, none⟩), .int .i64 k] w fun e w' => e = .returned (.int .i64 (touchC K k)) ∧
      Ck S w' b N most few (K.erase k) (dropA K A k) G ∧ Upd S w w' := by
  obtain ⟨mb, vk, vg, h, hS⟩ := h
  have H := Lib.hid h
  have HS := Lib.hid hS
  have HR := Lib.hid h.ks.rd
  have hle := h.kle
  obtain ⟨-, -, g2, g3, -⟩ := h.c
  have hblt := h.blt
  clear h hS
  by_cases hk : k ∈ K
  · obtain ⟨i, hi, hix, hiv, hib⟩ := idx_in hk
    have e1 : touchC K k = 0 := if_pos hk
    have e2 : dropA K A k = updB A k false := if_pos hk
    rw [e1, e2]
    have HK := Lib.hid hk
    have HE : Hid (K.eraseIdx i = K.erase k) := idxOf_erase hi hiv hib
    clear e1 e2 hk hiv hib
    have q : decide ((i : Int) < 0) = false := by simp only [decide_eq_false_iff_not]; omega
    go_enter Tryz.func298, Tryz.ntmps298
    go_wp2_with fail
    refine (find_any HR.out (by omega) k).mono ?_
    rintro e w1 ⟨rfl, hb1⟩
    rw [hix]
    have H1 := Lib.hid (H.out.below hb1)
    have k2 := (hb1.cell (p := ⟨b, 2, none⟩) hblt).trans g2
    have B1 := Lib.hid hb1
    clear hb1 g2 g3
    go_wp2_with fail
    refine (del_one H1.out.ks (by omega) hi).mono ?_
    rintro e w2 ⟨v2, rfl, hbe, hs2, hu2⟩
    obtain ⟨ao2, p2, rfl⟩ := hs2.rd.nil_iff
    have hM2 := H1.out.toCkMem.setKeys hu2 hs2 (.inl hbe)
    have hU2 := H1.out.toCkMem.updKeys (v2 := .slice ao2 (K.eraseIdx i).length p2) hu2
    have hstr2 := (hu2.block b H1.out.blt (fun e => H1.out.kb e)).trans H1.out.str
    have c2 := cell_of_block hstr2 2
    have c3 := cell_of_block hstr2 3
    have f2 := frozen_of_block hstr2 2
    simp at c2 c3
    obtain ⟨w3, hrun, hs3, hu3, hz3⟩ := SetAt.drop hM2.set (x := k) (H1.out.good.kr k HK.out) 0
    have HM3 := Lib.hid (hM2.setAsked hu3 hs3)
    have HU3 : Hid (Upd S w w3) := ((Upd.of_below B1.out).trans (hU2.mono (fun j _ hj => HS.out j hj))).trans (hu3.mono (fun j _ hj => by subst hj; exact HS.out _ (.inr (.inl rfl))))
    have HB : Hid ((Value.slice ao2 (K.eraseIdx i).length p2).ownBlock = vk.ownBlock) := hbe
    clear hM2 hU2 hstr2 hs3 hu3 hz3 hs2 hu2 hbe
    go_wp2
    go_ret
    refine ⟨rfl, ⟨mb, .slice ao2 (K.erase k).length p2, vg, ⟨?_, H1.out.good.drop k⟩, ?_⟩, HU3.out⟩
    · have := HM3.out
      rw [HE.out] at this
      exact this
    · intro j hj
      rcases hj with h1 | h1 | h1 | h1
      · exact HS.out j (.inl h1)
      · exact HS.out j (.inr (.inl h1))
      · exact HS.out j (.inr (.inr (.inl (by rw [← HB.out, HE.out]; exact h1))))
      · exact HS.out j (.inr (.inr (.inr h1)))
  · have hix := idx_out hk
    have e1 : touchC K k = 14 := if_neg hk
    have e2 : dropA K A k = A := if_neg hk
    have e3 : K.erase k = K := List.erase_of_not_mem hk
    rw [e1, e2, e3]
    clear e1 e2 e3 hk g3
    go_enter Tryz.func298, Tryz.ntmps298
    go_wp2_with fail
    refine (find_any HR.out (by omega) k).mono ?_
    rintro e w1 ⟨rfl, hb1⟩
    rw [hix]
    go_wp2
    go_ret
    exact ⟨rfl, ⟨mb, vk, vg, H.out.below hb1, HS.out⟩, Upd.of_below hb1⟩
theorem ktouch_ck {S : Nat → Prop} {w : World} {b N most few : Nat} {K G : List Int} {A : Int → Bool} (h : Ck S w b N most few K A G) (k : Int) (hN : N < maxLen) :
    Calls Tryz.prog 325 #[.pointer (some ⟨b, 0, none⟩), .int .i64 k] w fun e w' => e = .returned (.int .i64 (touchC K k)) ∧
      Ck S w' b (N + 1) most few K (agA A K k) G ∧ Upd S w w' := by
  obtain ⟨mb, vk, vg, h, hS⟩ := h
  refine (ktouch_any h k hN).mono ?_
  rintro e w' ⟨rfl, hc, hu⟩
  exact ⟨rfl, ⟨mb, vk, vg, hc, hS⟩, hu.mono (fun j _ hj => by subst hj; exact hS _ (.inr (.inl rfl)))⟩
theorem knew_ck {S : Nat → Prop} (m f : Nat) (w : World) (h1 : 1 ≤ m) (h2 : m ≤ 1024) (h3 : f ≤ 1024) (hn : ∀ j, w.heap.size ≤ j → S j) :
    Calls Tryz.prog 135 #[.int .i64 m, .int .i64 f] w fun e w' => ∃ b, e = .returned (.tuple #[.pointer (some ⟨b, 0, none⟩), .int .i64 0]) ∧
      Ck S w' b 0 m f [] (fun _ => false) [] ∧ w.heap.size ≤ b ∧ Below w.heap.size w w' := by
  refine (knew_ok m f w h1 h2 h3).mono ?_
  rintro e w' ⟨b, mb, rfl, hc, hb, hmb, hB⟩
  refine ⟨b, rfl, ⟨mb, _, _, hc, ?_⟩, hb, hB⟩
  rintro j (rfl | rfl | hj | hj)
  · exact hn _ hb
  · exact hn _ hmb
  · cases hj
  · cases hj
structure Tur (w : World) : Prop where
  c0 : w.cell? ⟨1, 0, none⟩ = some (.int .i64 2)
  c1 : w.cell? ⟨1, 1, none⟩ = some (.int .i64 28)
  c2 : w.cell? ⟨1, 2, none⟩ = some (.int .i64 24)
  c3 : w.cell? ⟨1, 3, none⟩ = some (.int .i64 17)
  c4 : w.cell? ⟨1, 4, none⟩ = some (.int .i64 0)
theorem Tur.lt {w : World} (h : Tur w) : 1 < w.heap.size := (addr_of_cell h.c0).2
theorem Tur.keep {w w' : World} (h : Tur w) {S : Nat → Prop} (hu : Upd S w w') (hs : ¬ S 1) : Tur w' :=
  ⟨(hu.cellAt h.lt hs).trans h.c0, (hu.cellAt h.lt hs).trans h.c1, (hu.cellAt h.lt hs).trans h.c2, (hu.cellAt h.lt hs).trans h.c3, (hu.cellAt h.lt hs).trans h.c4⟩
theorem Tur.below {w w' : World} (h : Tur w) (hb : Below w.heap.size w w') : Tur w' := h.keep (Upd.of_below (S := fun _ => False) hb) (fun h => h)
def mayB (a b : Int) : Bool :=
  if a = 0 then b == 1 else if a = 1 then b == 2 || b == 3 || b == 4 else if a = 2 then b == 3 || b == 4 else if a = 3 then b == 0 || b == 4 else false
def stateB (a : Int) : Bool := decide (0 ≤ a) && decide (a ≤ 4)
theorem isState_any (a : Int) (w : World) : Calls Tryz.prog 248 #[.int .i64 a] w fun e w' => e = .returned (.bool (stateB a)) ∧ w' = w := by
  by_cases h1 : 0 ≤ a
  · by_cases h2 : a ≤ 4
    · go_enter Tryz.func248, Tryz.ntmps248
      go_wp2
      go_ret
      exact ⟨by simp [stateB, h1, h2], rfl⟩
    · go_enter Tryz.func248, Tryz.ntmps248
      go_wp2
      go_ret
      exact ⟨by simp [stateB, h1, h2], rfl⟩
  · go_enter Tryz.func248, Tryz.ntmps248
    go_wp2
    go_ret
    exact ⟨by simp [stateB]; omega, rfl⟩
theorem may_out (a b : Int) (h : ¬ (0 ≤ a ∧ a ≤ 4) ∨ ¬ (0 ≤ b ∧ b ≤ 4)) : mayB a b = false := by
  unfold mayB
  repeat' split
  all_goals first | rfl | (simp; omega)
theorem may_any (a b : Int) (w : World) (ht : Tur w) : Calls Tryz.prog 249 #[.int .i64 a, .int .i64 b] w fun e w' => e = .returned (.bool (mayB a b)) ∧ w' = w := by
  by_cases ha : 0 ≤ a ∧ a ≤ 4
  · by_cases hb : 0 ≤ b ∧ b ≤ 4
    · obtain ⟨c0, c1, c2, c3, c4⟩ := ht
      have ha' : a = 0 ∨ a = 1 ∨ a = 2 ∨ a = 3 ∨ a = 4 := by omega
      have hb' : b = 0 ∨ b = 1 ∨ b = 2 ∨ b = 3 ∨ b = 4 := by omega
      clear ha hb
      rcases ha' with rfl | rfl | rfl | rfl | rfl <;> rcases hb' with rfl | rfl | rfl | rfl | rfl
      all_goals
        go_enter Tryz.func249, Tryz.ntmps249
        go_wp2
        go_ret
        exact ⟨rfl, rfl⟩
    · rw [may_out a b (.inr hb)]
      have hs : stateB a = true := by simp [stateB, ha]
      have hs2 : stateB b = false := by simp [stateB]; omega
      clear ht ha hb
      go_enter Tryz.func249, Tryz.ntmps249
      go_wp2_with fail
      refine (isState_any a _).mono ?_
      rintro e w' ⟨rfl, rfl⟩
      rw [hs]
      go_wp2_with fail
      refine (isState_any b _).mono ?_
      rintro e w' ⟨rfl, rfl⟩
      rw [hs2]
      go_wp2
      go_ret
      exact ⟨rfl, rfl⟩
  · rw [may_out a b (.inl ha)]
    have hs : stateB a = false := by simp [stateB]; omega
    clear ht ha
    go_enter Tryz.func249, Tryz.ntmps249
    go_wp2_with fail
    refine (isState_any a _).mono ?_
    rintro e w' ⟨rfl, rfl⟩
    rw [hs]
    go_wp2
    go_ret
    exact ⟨rfl, rfl⟩
structure SlotsAt (T : TypeId) (w : World) (b : Nat) (v : Value) (l : List Int) : Prop where
  str : w.heap[b]? = some (.cells #[v] T (0, 0))
  sl : Sl w 3 1 v l.length (ints l)
  ne : v.ownBlock ≠ some b
  le : l.length ≤ 1024
abbrev ptrAt (b : Nat) : Value := .pointer (some ⟨b, 0, none⟩)
section
variable {T : TypeId} {w w' : World} {b : Nat} {v : Value} {l : List Int}
theorem SlotsAt.keep (h : SlotsAt T w b v l) {S : Nat → Prop} (hu : Upd S w w') (hb : ¬ S b) (hv : ∀ g, v.ownBlock = some g → ¬ S g) : SlotsAt T w' b v l :=
  ⟨(hu.block b (lt_of_block h.str) hb).trans h.str, h.sl.keep hu hv, h.ne, h.le⟩
theorem SlotsAt.new (h : SlotsAt T w b v l) (hu : Upd (fun _ => False) w w') : SlotsAt T w' b v l := h.keep hu (fun h => h) (fun _ _ h => h)
theorem Sl.set {e : TypeId} {g off n cap : Nat} {l : List Int} (h : Sl w e 1 (.slice (some ⟨g, off, none⟩) n cap) n (ints l)) (i : Nat) (hi : i < n) (x : Int) :
    Sl (w.setCell ⟨g, off + i, none⟩ (.int .i64 x)) e 1 (.slice (some ⟨g, off, none⟩) n cap) n (ints (l.set i x)) := by
  obtain ⟨hl, ⟨h1, _⟩ | ⟨g', off', cap', cur, h1, hg, hn, hm, hs, hc⟩⟩ := h
  · cases h1
  · cases h1
    refine ⟨by simpa using hl, .inr ⟨g, off, cap, _, rfl, heap_setCell_same hg _ _, hn, hm, by simpa using hs, fun j u hj => ?_⟩⟩
    have hjl : j < l.length := by have := (List.getElem?_eq_some_iff.1 hj).1; simpa using this
    rw [get_ints (by simpa using hjl)] at hj
    cases hj
    by_cases hji : i = j
    · subst hji
      rw [Array.getElem?_setIfInBounds_self, if_pos (by omega)]
      simp
    · rw [Array.getElem?_setIfInBounds_ne (by omega), List.getElem_set_ne hji]
      exact hc j _ (get_ints hjl)
theorem SlotsAt.set {g off cap : Nat} (h : SlotsAt T w b (.slice (some ⟨g, off, none⟩) l.length cap) l) (i : Nat) (hi : i < l.length) (x : Int) :
    SlotsAt T (w.setCell ⟨g, off + i, none⟩ (.int .i64 x)) b (.slice (some ⟨g, off, none⟩) l.length cap) (l.set i x) ∧ Upd (ownS (.slice (some ⟨g, off, none⟩) l.length cap)) w (w.setCell ⟨g, off + i, none⟩ (.int .i64 x)) := by
  have hu : Upd (ownS (.slice (some ⟨g, off, none⟩) l.length cap)) w (w.setCell ⟨g, off + i, none⟩ (.int .i64 x)) := (upd_setCell w g (off + i) _).mono (fun k _ hk => by subst hk; rfl)
  refine ⟨⟨(hu.block b (lt_of_block h.str) (fun e => h.ne e)).trans h.str, ?_, h.ne, by simpa using h.le⟩, hu⟩
  have := h.sl.set i hi x
  rw [List.length_set]; exact this
theorem SlotsAt.at (h : SlotsAt T w b v l) {i : Nat} (hi : i < l.length) : ∃ g off cap, v = .slice (some ⟨g, off, none⟩) l.length cap ∧ w.cell? ⟨g, off + i, none⟩ = some (.int .i64 l[i]) ∧ w.frozen? ⟨g, off + i, none⟩ = false := by
  obtain ⟨g, off, cap, cur, rfl, hg, _, hc⟩ := h.sl.at (by omega)
  exact ⟨g, off, cap, rfl, by rw [cell_of_block hg]; exact hc i _ (get_ints hi), frozen_of_block hg _⟩
end
section
variable {w : World} {b : Nat} {v : Value} {l : List Int}
theorem state_out (h : SlotsAt 327 w b v l) (slot : Int) (ho : slot < 0 ∨ (l.length : Int) ≤ slot) :
    Calls Tryz.prog 247 #[ptrAt b, .int .i64 slot] w fun e w' => e = .returned (.tuple #[.int .i64 0, .int .i64 10]) ∧ w' = w := by
  have hc0 := cell_of_block h.str 0
  simp at hc0
  have hle := h.le
  obtain ⟨ao, c, rfl⟩ := h.sl.rd.nil_iff
  clear h
  by_cases h0 : slot < 0
  · clear ho
    go_enter Tryz.func247, Tryz.ntmps247
    go_wp2
    go_ret2
    exact ⟨rfl, rfl⟩
  · have h1 : (l.length : Int) ≤ slot := by omega
    clear ho
    go_enter Tryz.func247, Tryz.ntmps247
    go_wp2
    go_ret2
    exact ⟨rfl, rfl⟩
theorem state_in (h : SlotsAt 327 w b v l) (i : Nat) (hi : i < l.length) :
    Calls Tryz.prog 247 #[ptrAt b, .int .i64 i] w fun e w' => e = .returned (.tuple #[.int .i64 l[i], .int .i64 0]) ∧ w' = w := by
  have hc0 := cell_of_block h.str 0
  simp at hc0
  have hle := h.le
  obtain ⟨g, off, cap, rfl, hc, hf⟩ := h.at hi
  clear h
  go_enter Tryz.func247, Tryz.ntmps247
  go_wp2
  go_ret2
  exact ⟨rfl, rfl⟩
def turnCode (l : List Int) (slot state : Int) : Int :=
  if slot < 0 ∨ (l.length : Int) ≤ slot then 10 else if stateB state = false then 1 else if mayB (l.getD slot.toNat 0) state = false then 16 else 0
def turnList (l : List Int) (slot state : Int) : List Int := if turnCode l slot state = 0 then l.set slot.toNat state else l
theorem turn_any (h : SlotsAt 327 w b v l) (ht : Tur w) (slot state : Int) :
    Calls Tryz.prog 176 #[ptrAt b, .int .i64 slot, .int .i64 state] w fun e w' => e = .returned (.int .i64 (turnCode l slot state)) ∧
      SlotsAt 327 w' b v (turnList l slot state) ∧ Upd (ownS v) w w' := by
  have H := Lib.hid h
  have HT := Lib.hid ht
  clear ht
  by_cases h0 : slot < 0 ∨ (l.length : Int) ≤ slot
  · have hcode : turnCode l slot state = 10 := by simp [turnCode, h0]
    have hlist : turnList l slot state = l := by simp [turnList, hcode]
    rw [hcode, hlist]
    have H0 := Lib.hid h0
    clear h hcode hlist h0
    go_enter Tryz.func176, Tryz.ntmps176
    go_wp2_with fail
    refine (state_out H.out _ H0.out).mono ?_
    rintro e w' ⟨rfl, rfl⟩
    go_wp2
    go_ret
    exact ⟨rfl, H.out, Upd.refl _ _⟩
  · obtain ⟨i, rfl⟩ := Int.eq_ofNat_of_zero_le (show 0 ≤ slot by omega)
    have hi : i < l.length := by omega
    have hgd : l.getD i 0 = l[i] := by simp [hi]
    by_cases h1 : stateB state = false
    · have hcode : turnCode l i state = 1 := by simp only [turnCode, if_neg h0, if_pos h1]
      have hlist : turnList l i state = l := by simp [turnList, hcode]
      rw [hcode, hlist]
      have H1 := Lib.hid h1
      clear h hcode hlist h0 hgd h1
      go_enter Tryz.func176, Tryz.ntmps176
      go_wp2_with fail
      refine (state_in H.out i hi).mono ?_
      rintro e w' ⟨rfl, rfl⟩
      go_wp2_with fail
      refine (isState_any state _).mono ?_
      rintro e w' ⟨rfl, rfl⟩
      rw [H1.out]
      go_wp2
      go_ret
      exact ⟨rfl, H.out, Upd.refl _ _⟩
    · have h1' : stateB state = true := by simpa using h1
      by_cases h2 : mayB l[i] state = false
      · have hcode : turnCode l i state = 16 := by simp only [turnCode, if_neg h0, if_neg h1, Int.toNat_natCast, hgd, if_pos h2]
        have hlist : turnList l i state = l := by simp [turnList, hcode]
        rw [hcode, hlist]
        have H1 := Lib.hid h1'
        have H2 := Lib.hid h2
        clear h hcode hlist h0 hgd h1 h1' h2
        go_enter Tryz.func176, Tryz.ntmps176
        go_wp2_with fail
        refine (state_in H.out i hi).mono ?_
        rintro e w' ⟨rfl, rfl⟩
        go_wp2_with fail
        refine (isState_any state _).mono ?_
        rintro e w' ⟨rfl, rfl⟩
        rw [H1.out]
        go_wp2_with fail
        refine (may_any _ _ _ HT.out).mono ?_
        rintro e w' ⟨rfl, rfl⟩
        rw [H2.out]
        go_wp2
        go_ret
        exact ⟨rfl, H.out, Upd.refl _ _⟩
      · have h2' : mayB l[i] state = true := by simpa using h2
        have hcode : turnCode l i state = 0 := by simp only [turnCode, if_neg h0, if_neg h1, Int.toNat_natCast, hgd, if_neg h2]
        have hlist : turnList l i state = l.set i state := by simp only [turnList, hcode, if_true, Int.toNat_natCast]
        rw [hcode, hlist]
        have H1 := Lib.hid h1'
        have H2 := Lib.hid h2'
        have hc0 := cell_of_block h.str 0
        simp at hc0
        have hle := h.le
        obtain ⟨g, off, cap, rfl, hc, hf⟩ := h.at hi
        have HF := Lib.hid (H.out.set i hi state)
        clear h hcode hlist h0 hgd h1 h1' h2 h2'
        go_enter Tryz.func176, Tryz.ntmps176
        go_wp2_with fail
        refine (state_in H.out i hi).mono ?_
        rintro e w' ⟨rfl, rfl⟩
        go_wp2_with fail
        refine (isState_any state _).mono ?_
        rintro e w' ⟨rfl, rfl⟩
        rw [H1.out]
        go_wp2_with fail
        refine (may_any _ _ _ HT.out).mono ?_
        rintro e w' ⟨rfl, rfl⟩
        rw [H2.out]
        go_wp2
        go_ret
        exact ⟨rfl, HF.out.1, HF.out.2⟩
end
end Go.Proofs.YtfhfbpmlnjdfoaaGreatDoor
