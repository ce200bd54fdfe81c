/- All, Ghosts: which iterators they give. -/
import Derived.Test.YtmgcekpfnkcmjaaSecIt
namespace Go.Proofs.Ytmgcekpfnkcmjaa
open Go Go.RowKit Go.Shelf

theorem bcell {W w1 : World} (hb : Below W.heap.size W w1) : (∀ b o, b < W.heap.size → w1.cell? ⟨b, o, none⟩ = W.cell? ⟨b, o, none⟩) ∧ (∀ b o, b < W.heap.size → w1.frozen? ⟨b, o, none⟩ = W.frozen? ⟨b, o, none⟩) :=
  ⟨fun b o h => hb.cell (p := ⟨b, o, none⟩) h, fun b o h => hb.frozen (p := ⟨b, o, none⟩) h⟩

set_option maxRecDepth 100000 in
theorem kall_nil (w : World) : Calls Try.prog 69 #[.pointer none] w fun e w' => e = .returned (.func (.func 92) #[] #[]) ∧ w' = w := by
  go_enter Try.func69, Try.ntmps69
  go_wp2
  go_ret
  exact ⟨rfl, rfl⟩

/-- An iterator over a slice of ints. -/
theorem gl_gives {w : World} {Bs : Nat} {v : Value} {G : List Int} (hle : G.length ≤ 4096) (c1 : w.cell? ⟨Bs, 0, none⟩ = some v) (hs : Sl w 3 1 v G.length (ints G)) :
    GivesE encI w 104 #[.pointer (some ⟨Bs, 0, none⟩)] G := by
  refine ⟨enters_of Try.func104 (by kernel_rfl) rfl, fun n hn S hS w2 hw2 => ?_⟩
  intro l J Jx W hW hJ _ hY h0
  have hU2 : Upd (fun _ => False) w W := (Upd.of_below hw2).trans (Upd.of_below hW)
  exact gl_in n hn S l Bs G v hle (fun g hg e => by have := hS _ e; have := hs.lt hg; omega) J Jx hY W ((hU2.cellAt (addr_of_cell c1).2 (fun h => h)).trans c1) (hs.keep hU2 (fun _ _ h => h)) h0
def GhPost (w : World) (G : List Int) (e : Ending) (w' : World) : Prop := ∃ gf lb, e = .returned (.func (.func gf) #[] lb) ∧ GivesE encI w' gf lb G ∧ Below w.heap.size w w'

theorem cell_set_same {W : World} {p : Nat} {v : Value} (h : ∃ u, W.cell? ⟨p, 0, none⟩ = some u) : (W.setCell ⟨p, 0, none⟩ v).cell? ⟨p, 0, none⟩ = some v := by
  obtain ⟨u, h⟩ := h
  exact World.cell?_setCell_same W _ v h
theorem cell_set_ne {W : World} {p q : Nat} {v : Value} (h : p ≠ q) : (W.setCell ⟨q, 0, none⟩ v).cell? ⟨p, 0, none⟩ = W.cell? ⟨p, 0, none⟩ :=
  World.cell?_of_block (a := ⟨p, 0, none⟩) (w := W) (Below.heap_setCell W ⟨q, 0, none⟩ v p h)
theorem cell_set_same2 {W : World} {p q : Nat} {v v' : Value} (hne : p ≠ q) (h : ∃ u, W.cell? ⟨p, 0, none⟩ = some u) : ((W.setCell ⟨q, 0, none⟩ v').setCell ⟨p, 0, none⟩ v).cell? ⟨p, 0, none⟩ = some v := by
  obtain ⟨u, h⟩ := h
  exact cell_set_same ⟨u, (cell_set_ne hne).trans h⟩
theorem cell_alloc_lt {W : World} {p : Nat} {o : Obj} (h : p < W.heap.size) : (W.alloc o).cell? ⟨p, 0, none⟩ = W.cell? ⟨p, 0, none⟩ :=
  World.cell?_of_block (a := ⟨p, 0, none⟩) (w := W) (Below.heap_alloc W o p h)
theorem cell_new {W : World} {n : Nat} {v : Value} {T : TypeId} (h : n = W.heap.size) : (W.alloc (.cells #[v] T)).cell? ⟨n, 0, none⟩ = some v :=
  cell_of_block (heap_alloc_last W _ h) 0

/-- What All answers. -/
def AllPost (w : World) (N : Nat) (K : List Int) (A : Int → Bool) (e : Ending) (w' : World) : Prop :=
  ∃ Bs Bm v m2, e = .returned (.func (.func 93) #[] #[.pointer (some ⟨Bs, 0, none⟩), .pointer (some ⟨Bm, 0, none⟩)]) ∧
      w'.cell? ⟨Bs, 0, none⟩ = some v ∧ w'.cell? ⟨Bm, 0, none⟩ = some (.map (some m2)) ∧ Sl w' 3 1 v K.length (ints K) ∧ SetAt w' m2 N A ∧ Below w.heap.size w w'
theorem all_fin {w w3 w4 W : World} {N Bs Bm m2 : Nat} {K : List Int} {A : Int → Bool} {v : Value} {e : Ending} (he : e = .returned (.func (.func 93) #[] #[.pointer (some ⟨Bs, 0, none⟩), .pointer (some ⟨Bm, 0, none⟩)]))
    (c1 : W.cell? ⟨Bs, 0, none⟩ = some v) (c2 : W.cell? ⟨Bm, 0, none⟩ = some (.map (some m2))) (hs : Sl w3 3 1 v K.length (ints K)) (h34 : Upd (fun _ => False) w3 w4) (ha : SetAt w4 m2 N A) (hu : Upd (fun j => j = Bs ∨ j = Bm) w4 W)
    (hv : ∀ g, v.ownBlock = some g → g ≠ Bs ∧ g ≠ Bm) (hm : m2 ≠ Bs ∧ m2 ≠ Bm) (h03 : Upd (fun _ => False) w w3) (hB : w.heap.size ≤ Bs ∧ w.heap.size ≤ Bm) : AllPost w N K A e W :=
  ⟨Bs, Bm, v, m2, he, c1, c2, (hs.keep h34 (fun _ _ h => h)).keep hu (fun g hg h => h.elim (hv g hg).1 (hv g hg).2), ha.keep hu (fun h => h.elim hm.1 hm.2),
    below_upd (below_upd (below_upd (Below.refl _ w) h03 (Nat.le_refl _) (fun _ h => h.elim)) h34 (Nat.le_refl _) (fun _ h => h.elim)) hu (Nat.le_refl _) (fun j h => h.elim (fun e => e ▸ hB.1) (fun e => e ▸ hB.2))⟩

set_option maxRecDepth 100000 in
set_option maxHeartbeats 4000000 in
theorem kall_at {w : World} {b mb N most few : Nat} {vk vg : Value} {K G : List Int} {A : Int → Bool} (h : CkAt w b mb N vk vg most few K A G) :
    Calls Try.prog 69 #[.pointer (some ⟨b, 0, none⟩)] w (AllPost w N K A) := by
  have H := Lib.hid (fun (W : World) (hu : Upd (fun _ => False) w W) => h.keep hu (fun _ _ h => h))
  have hblt := h.blt
  have hkl := h.kle
  have hk4 : K.length ≤ 4096 := by omega
  have g2 := h.c.2.2.1
  have g3 := h.c.2.2.2.1
  clear h
  -- laid
  have nw0 : ¬ b = w.heap.size := by omega
  have nw1 : ¬ w.heap.size = b := by omega
  have nw2 : ¬ b = w.heap.size + 1 := by omega
  have nw3 : ¬ w.heap.size + 1 = b := by omega
  have C0 := Lib.hid (H.out (w.drew) ((Upd.refl _ _).drew))
  have CA := Lib.hid (H.out ((w.alloc (.cells #[.slice none 0 0] 45)).drew) (((Upd.refl _ _).alloc _).drew))
  have LA0 : Hid (((w.alloc (.cells #[.slice none 0 0] 45)).drew).heap[w.heap.size]? = some (.cells #[.slice none 0 0] 45 (0, 0))) := heap_alloc_last w _ rfl
  have CB := Lib.hid (H.out ((w.alloc (.cells #[.map none] 111)).drew) (((Upd.refl _ _).alloc _).drew))
  have LB0 : Hid (((w.alloc (.cells #[.map none] 111)).drew).heap[w.heap.size]? = some (.cells #[.map none] 111 (0, 0))) := heap_alloc_last w _ rfl
  have CAB := Lib.hid (H.out (((w.alloc (.cells #[.slice none 0 0] 45)).alloc (.cells #[.map none] 111)).drew) ((((Upd.refl _ _).alloc _).alloc _).drew))
  have LAB0 : Hid ((((w.alloc (.cells #[.slice none 0 0] 45)).alloc (.cells #[.map none] 111)).drew).heap[w.heap.size]? = some (.cells #[.slice none 0 0] 45 (0, 0))) := ((((Upd.refl (fun _ => False) (w.alloc (.cells #[.slice none 0 0] 45))).alloc (.cells #[.map none] 111)).block w.heap.size (by simp) (fun h => h)).trans (heap_alloc_last w _ rfl))
  have LAB1 : Hid ((((w.alloc (.cells #[.slice none 0 0] 45)).alloc (.cells #[.map none] 111)).drew).heap[w.heap.size + 1]? = some (.cells #[.map none] 111 (0, 0))) := heap_alloc_last (w.alloc _) _ (by simp)
  have CBA := Lib.hid (H.out (((w.alloc (.cells #[.map none] 111)).alloc (.cells #[.slice none 0 0] 45)).drew) ((((Upd.refl _ _).alloc _).alloc _).drew))
  have LBA0 : Hid ((((w.alloc (.cells #[.map none] 111)).alloc (.cells #[.slice none 0 0] 45)).drew).heap[w.heap.size]? = some (.cells #[.map none] 111 (0, 0))) := ((((Upd.refl (fun _ => False) (w.alloc (.cells #[.map none] 111))).alloc (.cells #[.slice none 0 0] 45)).block w.heap.size (by simp) (fun h => h)).trans (heap_alloc_last w _ rfl))
  have LBA1 : Hid ((((w.alloc (.cells #[.map none] 111)).alloc (.cells #[.slice none 0 0] 45)).drew).heap[w.heap.size + 1]? = some (.cells #[.slice none 0 0] 45 (0, 0))) := heap_alloc_last (w.alloc _) _ (by simp)
  go_enter Try.func69, Try.ntmps69
  go_wp2
  go_region_held3 (fun W => W.cell? ⟨b, 2, none⟩ = some vk ∧ W.cell? ⟨b, 3, none⟩ = some (.map (some mb))) (go_keep)
    (first
    | ((go_at_call 72; (with_reducible refine (cloneI_any C0.out.ks.rd hk4).mono ?_); rintro e w3 ⟨v3, rfl, hs3, hf3, hb3⟩; obtain ⟨ao3, c3, rfl⟩ := hs3.rd.nil_iff; have hu3 : Upd (fun _ => False) w w3 := Upd.trans ((Upd.refl _ _).drew) (Upd.of_below hb3); have hX : Hid (∀ W, Upd (fun _ => False) w3 W → True ∧ True) := fun W hu => ⟨trivial, trivial⟩; have bl3 : b < w3.heap.size := Nat.lt_of_lt_of_le hblt hu3.size; have nx0 : ¬ b = w3.heap.size := (by omega); have nx1 : ¬ w3.heap.size = b := (by omega); have nx2 : ¬ b = w3.heap.size + 1 := (by omega); have nx3 : ¬ w3.heap.size + 1 = b := (by omega); have k2 := (H.out _ hu3).c.2.2.1; have k3 := (H.out _ hu3).c.2.2.2.1; have F3 := Lib.hid (And.intro hs3 (And.intro hf3 (And.intro hb3 hu3))); clear hs3 hf3 hb3 hu3))
    | ((go_at_call 72; (with_reducible refine (cloneI_any CA.out.ks.rd hk4).mono ?_); rintro e w3 ⟨v3, rfl, hs3, hf3, hb3⟩; obtain ⟨ao3, c3, rfl⟩ := hs3.rd.nil_iff; have hu3 : Upd (fun _ => False) w w3 := Upd.trans (((Upd.refl _ _).alloc _).drew) (Upd.of_below hb3); have hX : Hid (∀ W, Upd (fun _ => False) w3 W → W.heap[w.heap.size]? = some (.cells #[.slice none 0 0] 45 (0, 0)) ∧ True) := fun W hu => ⟨(hu.block _ (Nat.lt_of_lt_of_le (lt_of_block LA0.out) hb3.size) (fun h => h)).trans ((hb3.block _ (lt_of_block LA0.out)).trans LA0.out), trivial⟩; have z0 : w.heap.size < w3.heap.size := Nat.lt_of_lt_of_le (lt_of_block LA0.out) hb3.size; have za0 := Nat.ne_of_lt z0; have zb0 := Nat.ne_of_gt z0; have bl3 : b < w3.heap.size := Nat.lt_of_lt_of_le hblt hu3.size; have nx0 : ¬ b = w3.heap.size := (by omega); have nx1 : ¬ w3.heap.size = b := (by omega); have nx2 : ¬ b = w3.heap.size + 1 := (by omega); have nx3 : ¬ w3.heap.size + 1 = b := (by omega); have k2 := (H.out _ hu3).c.2.2.1; have k3 := (H.out _ hu3).c.2.2.2.1; have F3 := Lib.hid (And.intro hs3 (And.intro hf3 (And.intro hb3 hu3))); clear hs3 hf3 hb3 hu3))
    | ((go_at_call 72; (with_reducible refine (cloneI_any CB.out.ks.rd hk4).mono ?_); rintro e w3 ⟨v3, rfl, hs3, hf3, hb3⟩; obtain ⟨ao3, c3, rfl⟩ := hs3.rd.nil_iff; have hu3 : Upd (fun _ => False) w w3 := Upd.trans (((Upd.refl _ _).alloc _).drew) (Upd.of_below hb3); have hX : Hid (∀ W, Upd (fun _ => False) w3 W → W.heap[w.heap.size]? = some (.cells #[.map none] 111 (0, 0)) ∧ True) := fun W hu => ⟨(hu.block _ (Nat.lt_of_lt_of_le (lt_of_block LB0.out) hb3.size) (fun h => h)).trans ((hb3.block _ (lt_of_block LB0.out)).trans LB0.out), trivial⟩; have z0 : w.heap.size < w3.heap.size := Nat.lt_of_lt_of_le (lt_of_block LB0.out) hb3.size; have za0 := Nat.ne_of_lt z0; have zb0 := Nat.ne_of_gt z0; have bl3 : b < w3.heap.size := Nat.lt_of_lt_of_le hblt hu3.size; have nx0 : ¬ b = w3.heap.size := (by omega); have nx1 : ¬ w3.heap.size = b := (by omega); have nx2 : ¬ b = w3.heap.size + 1 := (by omega); have nx3 : ¬ w3.heap.size + 1 = b := (by omega); have k2 := (H.out _ hu3).c.2.2.1; have k3 := (H.out _ hu3).c.2.2.2.1; have F3 := Lib.hid (And.intro hs3 (And.intro hf3 (And.intro hb3 hu3))); clear hs3 hf3 hb3 hu3))
    | ((go_at_call 72; (with_reducible refine (cloneI_any CAB.out.ks.rd hk4).mono ?_); rintro e w3 ⟨v3, rfl, hs3, hf3, hb3⟩; obtain ⟨ao3, c3, rfl⟩ := hs3.rd.nil_iff; have hu3 : Upd (fun _ => False) w w3 := Upd.trans ((((Upd.refl _ _).alloc _).alloc _).drew) (Upd.of_below hb3); have hX : Hid (∀ W, Upd (fun _ => False) w3 W → W.heap[w.heap.size]? = some (.cells #[.slice none 0 0] 45 (0, 0)) ∧ W.heap[w.heap.size + 1]? = some (.cells #[.map none] 111 (0, 0))) := fun W hu => ⟨(hu.block _ (Nat.lt_of_lt_of_le (lt_of_block LAB0.out) hb3.size) (fun h => h)).trans ((hb3.block _ (lt_of_block LAB0.out)).trans LAB0.out), (hu.block _ (Nat.lt_of_lt_of_le (lt_of_block LAB1.out) hb3.size) (fun h => h)).trans ((hb3.block _ (lt_of_block LAB1.out)).trans LAB1.out)⟩; have z0 : w.heap.size < w3.heap.size := Nat.lt_of_lt_of_le (lt_of_block LAB0.out) hb3.size; have za0 := Nat.ne_of_lt z0; have zb0 := Nat.ne_of_gt z0; have z1 : w.heap.size + 1 < w3.heap.size := Nat.lt_of_lt_of_le (lt_of_block LAB1.out) hb3.size; have za1 := Nat.ne_of_lt z1; have zb1 := Nat.ne_of_gt z1; have bl3 : b < w3.heap.size := Nat.lt_of_lt_of_le hblt hu3.size; have nx0 : ¬ b = w3.heap.size := (by omega); have nx1 : ¬ w3.heap.size = b := (by omega); have nx2 : ¬ b = w3.heap.size + 1 := (by omega); have nx3 : ¬ w3.heap.size + 1 = b := (by omega); have k2 := (H.out _ hu3).c.2.2.1; have k3 := (H.out _ hu3).c.2.2.2.1; have F3 := Lib.hid (And.intro hs3 (And.intro hf3 (And.intro hb3 hu3))); clear hs3 hf3 hb3 hu3))
    | ((go_at_call 72; (with_reducible refine (cloneI_any CBA.out.ks.rd hk4).mono ?_); rintro e w3 ⟨v3, rfl, hs3, hf3, hb3⟩; obtain ⟨ao3, c3, rfl⟩ := hs3.rd.nil_iff; have hu3 : Upd (fun _ => False) w w3 := Upd.trans ((((Upd.refl _ _).alloc _).alloc _).drew) (Upd.of_below hb3); have hX : Hid (∀ W, Upd (fun _ => False) w3 W → W.heap[w.heap.size]? = some (.cells #[.map none] 111 (0, 0)) ∧ W.heap[w.heap.size + 1]? = some (.cells #[.slice none 0 0] 45 (0, 0))) := fun W hu => ⟨(hu.block _ (Nat.lt_of_lt_of_le (lt_of_block LBA0.out) hb3.size) (fun h => h)).trans ((hb3.block _ (lt_of_block LBA0.out)).trans LBA0.out), (hu.block _ (Nat.lt_of_lt_of_le (lt_of_block LBA1.out) hb3.size) (fun h => h)).trans ((hb3.block _ (lt_of_block LBA1.out)).trans LBA1.out)⟩; have z0 : w.heap.size < w3.heap.size := Nat.lt_of_lt_of_le (lt_of_block LBA0.out) hb3.size; have za0 := Nat.ne_of_lt z0; have zb0 := Nat.ne_of_gt z0; have z1 : w.heap.size + 1 < w3.heap.size := Nat.lt_of_lt_of_le (lt_of_block LBA1.out) hb3.size; have za1 := Nat.ne_of_lt z1; have zb1 := Nat.ne_of_gt z1; have bl3 : b < w3.heap.size := Nat.lt_of_lt_of_le hblt hu3.size; have nx0 : ¬ b = w3.heap.size := (by omega); have nx1 : ¬ w3.heap.size = b := (by omega); have nx2 : ¬ b = w3.heap.size + 1 := (by omega); have nx3 : ¬ w3.heap.size + 1 = b := (by omega); have k2 := (H.out _ hu3).c.2.2.1; have k3 := (H.out _ hu3).c.2.2.2.1; have F3 := Lib.hid (And.intro hs3 (And.intro hf3 (And.intro hb3 hu3))); clear hs3 hf3 hb3 hu3))
    | ((go_at_call 73; (with_reducible refine (sclone_any (w := w3) (H.out _ (F3.out.2.2.2.trans (Upd.refl _ _))).set).mono ?_); rintro e w4 ⟨rfl, hset4, hb4⟩; have hu34 : Upd (fun _ => False) w3 w4 := Upd.trans (Upd.refl _ _) (Upd.of_below hb4); obtain ⟨x0, x1⟩ := hX.out _ hu34; (try (have xa := cell_of_block x0 0)); (try (have xb := frozen_of_block x0 0)); (try (have xc := cell_of_block x1 0)); (try (have xd := frozen_of_block x1 0)); (try simp at xa); (try simp at xc); (try (have ya := lt_of_block x0)); (try (have yb := lt_of_block x1)); (try (have yc := Nat.ne_of_lt ya)); (try (have yd := Nat.ne_of_gt ya)); (try (have ye := Nat.ne_of_lt yb)); (try (have yf := Nat.ne_of_gt yb)); have X0 := Lib.hid x0; have X1 := Lib.hid x1; clear x0 x1; have M0 : Hid True := trivial; have M1 : Hid True := trivial; have bl4 : b < w4.heap.size := Nat.lt_of_lt_of_le (Nat.lt_of_lt_of_le hblt F3.out.2.2.2.size) hu34.size; have ny0 : ¬ b = w4.heap.size := (by omega); have ny1 : ¬ w4.heap.size = b := (by omega); have ny2 : ¬ b = w4.heap.size + 1 := (by omega); have ny3 : ¬ w4.heap.size + 1 = b := (by omega); have l2 := (H.out _ (F3.out.2.2.2.trans hu34)).c.2.2.1; have l3 := (H.out _ (F3.out.2.2.2.trans hu34)).c.2.2.2.1; have F4 := Lib.hid (And.intro hset4 (And.intro hb4 hu34)); clear hset4 hb4 hu34))
    | ((go_at_call 73; (with_reducible refine (sclone_any (w := (w3.alloc (.cells #[.slice none 0 0] 45))) (H.out _ (F3.out.2.2.2.trans ((Upd.refl _ _).alloc _))).set).mono ?_); rintro e w4 ⟨rfl, hset4, hb4⟩; have hu34 : Upd (fun _ => False) w3 w4 := Upd.trans ((Upd.refl _ _).alloc _) (Upd.of_below hb4); obtain ⟨x0, x1⟩ := hX.out _ hu34; (try (have xa := cell_of_block x0 0)); (try (have xb := frozen_of_block x0 0)); (try (have xc := cell_of_block x1 0)); (try (have xd := frozen_of_block x1 0)); (try simp at xa); (try simp at xc); (try (have ya := lt_of_block x0)); (try (have yb := lt_of_block x1)); (try (have yc := Nat.ne_of_lt ya)); (try (have yd := Nat.ne_of_gt ya)); (try (have ye := Nat.ne_of_lt yb)); (try (have yf := Nat.ne_of_gt yb)); have X0 := Lib.hid x0; have X1 := Lib.hid x1; clear x0 x1; have m0 : w4.heap[w3.heap.size]? = some (.cells #[.slice none 0 0] 45 (0, 0)) := (hb4.block _ (by simp only [World.size_alloc]; omega)).trans (heap_alloc_last w3 _ rfl); have n0 := cell_of_block m0 0; have o0 := frozen_of_block m0 0; simp at n0; have M0 := Lib.hid m0; have lt0 := lt_of_block m0; have na0 := Nat.ne_of_lt lt0; have nb0 := Nat.ne_of_gt lt0; clear m0; have M1 : Hid True := trivial; have bl4 : b < w4.heap.size := Nat.lt_of_lt_of_le (Nat.lt_of_lt_of_le hblt F3.out.2.2.2.size) hu34.size; have ny0 : ¬ b = w4.heap.size := (by omega); have ny1 : ¬ w4.heap.size = b := (by omega); have ny2 : ¬ b = w4.heap.size + 1 := (by omega); have ny3 : ¬ w4.heap.size + 1 = b := (by omega); have l2 := (H.out _ (F3.out.2.2.2.trans hu34)).c.2.2.1; have l3 := (H.out _ (F3.out.2.2.2.trans hu34)).c.2.2.2.1; have F4 := Lib.hid (And.intro hset4 (And.intro hb4 hu34)); clear hset4 hb4 hu34))
    | ((go_at_call 73; (with_reducible refine (sclone_any (w := (w3.alloc (.cells #[.map none] 111))) (H.out _ (F3.out.2.2.2.trans ((Upd.refl _ _).alloc _))).set).mono ?_); rintro e w4 ⟨rfl, hset4, hb4⟩; have hu34 : Upd (fun _ => False) w3 w4 := Upd.trans ((Upd.refl _ _).alloc _) (Upd.of_below hb4); obtain ⟨x0, x1⟩ := hX.out _ hu34; (try (have xa := cell_of_block x0 0)); (try (have xb := frozen_of_block x0 0)); (try (have xc := cell_of_block x1 0)); (try (have xd := frozen_of_block x1 0)); (try simp at xa); (try simp at xc); (try (have ya := lt_of_block x0)); (try (have yb := lt_of_block x1)); (try (have yc := Nat.ne_of_lt ya)); (try (have yd := Nat.ne_of_gt ya)); (try (have ye := Nat.ne_of_lt yb)); (try (have yf := Nat.ne_of_gt yb)); have X0 := Lib.hid x0; have X1 := Lib.hid x1; clear x0 x1; have m0 : w4.heap[w3.heap.size]? = some (.cells #[.map none] 111 (0, 0)) := (hb4.block _ (by simp only [World.size_alloc]; omega)).trans (heap_alloc_last w3 _ rfl); have n0 := cell_of_block m0 0; have o0 := frozen_of_block m0 0; simp at n0; have M0 := Lib.hid m0; have lt0 := lt_of_block m0; have na0 := Nat.ne_of_lt lt0; have nb0 := Nat.ne_of_gt lt0; clear m0; have M1 : Hid True := trivial; have bl4 : b < w4.heap.size := Nat.lt_of_lt_of_le (Nat.lt_of_lt_of_le hblt F3.out.2.2.2.size) hu34.size; have ny0 : ¬ b = w4.heap.size := (by omega); have ny1 : ¬ w4.heap.size = b := (by omega); have ny2 : ¬ b = w4.heap.size + 1 := (by omega); have ny3 : ¬ w4.heap.size + 1 = b := (by omega); have l2 := (H.out _ (F3.out.2.2.2.trans hu34)).c.2.2.1; have l3 := (H.out _ (F3.out.2.2.2.trans hu34)).c.2.2.2.1; have F4 := Lib.hid (And.intro hset4 (And.intro hb4 hu34)); clear hset4 hb4 hu34))
    | ((go_at_call 73; (with_reducible refine (sclone_any (w := ((w3.alloc (.cells #[.slice none 0 0] 45)).alloc (.cells #[.map none] 111))) (H.out _ (F3.out.2.2.2.trans (((Upd.refl _ _).alloc _).alloc _))).set).mono ?_); rintro e w4 ⟨rfl, hset4, hb4⟩; have hu34 : Upd (fun _ => False) w3 w4 := Upd.trans (((Upd.refl _ _).alloc _).alloc _) (Upd.of_below hb4); obtain ⟨x0, x1⟩ := hX.out _ hu34; (try (have xa := cell_of_block x0 0)); (try (have xb := frozen_of_block x0 0)); (try (have xc := cell_of_block x1 0)); (try (have xd := frozen_of_block x1 0)); (try simp at xa); (try simp at xc); (try (have ya := lt_of_block x0)); (try (have yb := lt_of_block x1)); (try (have yc := Nat.ne_of_lt ya)); (try (have yd := Nat.ne_of_gt ya)); (try (have ye := Nat.ne_of_lt yb)); (try (have yf := Nat.ne_of_gt yb)); have X0 := Lib.hid x0; have X1 := Lib.hid x1; clear x0 x1; have m0 : w4.heap[w3.heap.size]? = some (.cells #[.slice none 0 0] 45 (0, 0)) := (hb4.block _ (by simp only [World.size_alloc]; omega)).trans (((((Upd.refl (fun _ => False) (w3.alloc (.cells #[.slice none 0 0] 45))).alloc (.cells #[.map none] 111)).block w3.heap.size (by simp) (fun h => h)).trans (heap_alloc_last w3 _ rfl))); have n0 := cell_of_block m0 0; have o0 := frozen_of_block m0 0; simp at n0; have M0 := Lib.hid m0; have lt0 := lt_of_block m0; have na0 := Nat.ne_of_lt lt0; have nb0 := Nat.ne_of_gt lt0; clear m0; have m1 : w4.heap[w3.heap.size + 1]? = some (.cells #[.map none] 111 (0, 0)) := (hb4.block _ (by simp only [World.size_alloc]; omega)).trans (heap_alloc_last (w3.alloc _) _ (by simp)); have n1 := cell_of_block m1 0; have o1 := frozen_of_block m1 0; simp at n1; have M1 := Lib.hid m1; have lt1 := lt_of_block m1; have na1 := Nat.ne_of_lt lt1; have nb1 := Nat.ne_of_gt lt1; clear m1; have bl4 : b < w4.heap.size := Nat.lt_of_lt_of_le (Nat.lt_of_lt_of_le hblt F3.out.2.2.2.size) hu34.size; have ny0 : ¬ b = w4.heap.size := (by omega); have ny1 : ¬ w4.heap.size = b := (by omega); have ny2 : ¬ b = w4.heap.size + 1 := (by omega); have ny3 : ¬ w4.heap.size + 1 = b := (by omega); have l2 := (H.out _ (F3.out.2.2.2.trans hu34)).c.2.2.1; have l3 := (H.out _ (F3.out.2.2.2.trans hu34)).c.2.2.2.1; have F4 := Lib.hid (And.intro hset4 (And.intro hb4 hu34)); clear hset4 hb4 hu34))
    | ((go_at_call 73; (with_reducible refine (sclone_any (w := ((w3.alloc (.cells #[.map none] 111)).alloc (.cells #[.slice none 0 0] 45))) (H.out _ (F3.out.2.2.2.trans (((Upd.refl _ _).alloc _).alloc _))).set).mono ?_); rintro e w4 ⟨rfl, hset4, hb4⟩; have hu34 : Upd (fun _ => False) w3 w4 := Upd.trans (((Upd.refl _ _).alloc _).alloc _) (Upd.of_below hb4); obtain ⟨x0, x1⟩ := hX.out _ hu34; (try (have xa := cell_of_block x0 0)); (try (have xb := frozen_of_block x0 0)); (try (have xc := cell_of_block x1 0)); (try (have xd := frozen_of_block x1 0)); (try simp at xa); (try simp at xc); (try (have ya := lt_of_block x0)); (try (have yb := lt_of_block x1)); (try (have yc := Nat.ne_of_lt ya)); (try (have yd := Nat.ne_of_gt ya)); (try (have ye := Nat.ne_of_lt yb)); (try (have yf := Nat.ne_of_gt yb)); have X0 := Lib.hid x0; have X1 := Lib.hid x1; clear x0 x1; have m0 : w4.heap[w3.heap.size]? = some (.cells #[.map none] 111 (0, 0)) := (hb4.block _ (by simp only [World.size_alloc]; omega)).trans (((((Upd.refl (fun _ => False) (w3.alloc (.cells #[.map none] 111))).alloc (.cells #[.slice none 0 0] 45)).block w3.heap.size (by simp) (fun h => h)).trans (heap_alloc_last w3 _ rfl))); have n0 := cell_of_block m0 0; have o0 := frozen_of_block m0 0; simp at n0; have M0 := Lib.hid m0; have lt0 := lt_of_block m0; have na0 := Nat.ne_of_lt lt0; have nb0 := Nat.ne_of_gt lt0; clear m0; have m1 : w4.heap[w3.heap.size + 1]? = some (.cells #[.slice none 0 0] 45 (0, 0)) := (hb4.block _ (by simp only [World.size_alloc]; omega)).trans (heap_alloc_last (w3.alloc _) _ (by simp)); have n1 := cell_of_block m1 0; have o1 := frozen_of_block m1 0; simp at n1; have M1 := Lib.hid m1; have lt1 := lt_of_block m1; have na1 := Nat.ne_of_lt lt1; have nb1 := Nat.ne_of_gt lt1; clear m1; have bl4 : b < w4.heap.size := Nat.lt_of_lt_of_le (Nat.lt_of_lt_of_le hblt F3.out.2.2.2.size) hu34.size; have ny0 : ¬ b = w4.heap.size := (by omega); have ny1 : ¬ w4.heap.size = b := (by omega); have ny2 : ¬ b = w4.heap.size + 1 := (by omega); have ny3 : ¬ w4.heap.size + 1 = b := (by omega); have l2 := (H.out _ (F3.out.2.2.2.trans hu34)).c.2.2.1; have l3 := (H.out _ (F3.out.2.2.2.trans hu34)).c.2.2.2.1; have F4 := Lib.hid (And.intro hset4 (And.intro hb4 hu34)); clear hset4 hb4 hu34)))
  all_goals
    go_wp2
    go_ret
    have hz3 := F3.out.2.2.1.size
    have hz4 := F4.out.2.1.size
    have hz34 := F4.out.2.2.size
    have hm4 := F4.out.1.lt
    simp only [World.size_alloc, World.size_drew] at hz3 hz4 hm4
    have hvb : ∀ g, (Value.slice ao3 K.length c3).ownBlock = some g → g < w3.heap.size := fun g hg => F3.out.1.lt hg
    have hvf : ∀ g, (Value.slice ao3 K.length c3).ownBlock = some g → _ ≤ g := F3.out.2.1
    simp only [World.size_alloc, World.size_drew] at hvf
    refine all_fin rfl ?c1 ?c2 F3.out.1 F4.out.2.2 F4.out.1 ?u ?v ?m F3.out.2.2.2 ?B
    case u => (repeat (first | exact Upd.refl _ _ | refine Upd.alloc ?_ _ | refine Upd.setCell ?_ _ (fun _ => by simp) _))
    case B => exact ⟨by omega, by omega⟩
    case m => (try simp only [World.size_alloc]); exact ⟨by omega, by omega⟩
    case v => exact fun g hg => ⟨by have := hvb g hg; have := hvf g hg; omega, by have := hvb g hg; have := hvf g hg; omega⟩
    case c1 => with_reducible first | (first | exact cell_new (by simp) | exact cell_set_same2 (by omega) ⟨_, ‹_›⟩ | exact cell_set_same ⟨_, ‹_›⟩) | (refine (cell_set_ne ?_).trans ?_; omega; first | exact cell_new (by simp) | exact cell_set_same2 (by omega) ⟨_, ‹_›⟩ | exact cell_set_same ⟨_, ‹_›⟩) | (refine (cell_alloc_lt ?_).trans ?_; ((try simp only [World.size_alloc, World.size_setCell]); omega); first | exact cell_new (by simp) | exact cell_set_same2 (by omega) ⟨_, ‹_›⟩ | exact cell_set_same ⟨_, ‹_›⟩)
    case c2 => (try simp only [World.size_alloc]); with_reducible first | (first | exact cell_new (by simp) | exact cell_set_same2 (by omega) ⟨_, ‹_›⟩ | exact cell_set_same ⟨_, ‹_›⟩) | (refine (cell_set_ne ?_).trans ?_; omega; first | exact cell_new (by simp) | exact cell_set_same2 (by omega) ⟨_, ‹_›⟩ | exact cell_set_same ⟨_, ‹_›⟩) | (refine (cell_alloc_lt ?_).trans ?_; ((try simp only [World.size_alloc, World.size_setCell]); omega); first | exact cell_new (by simp) | exact cell_set_same2 (by omega) ⟨_, ‹_›⟩ | exact cell_set_same ⟨_, ‹_›⟩)

theorem kall_gives {S : Nat → Prop} {w : World} {b N most few : Nat} {K G : List Int} {A : Int → Bool} (h : Ck S w b N most few K A G) :
    Calls Try.prog 69 #[.pointer (some ⟨b, 0, none⟩)] w fun e w' => ∃ gf lb, e = .returned (.func (.func gf) #[] lb) ∧ GivesE enc7 w' gf lb (kaL K A) ∧ Below w.heap.size w w' := by
  obtain ⟨mb, vk, vg, h, -⟩ := h
  refine (kall_at h).mono ?_
  rintro e w1 ⟨Bs, Bm, v, m2, rfl, c1, c2, hs, ha, hB⟩
  refine ⟨_, _, rfl, ⟨enters_of Try.func93 (by kernel_rfl) rfl, fun n hn S hS w2 hw2 => ?_⟩, hB⟩
  intro l J Jx W hW hJ _ hY h0
  have hlt : ∀ {j : Nat}, j < w1.heap.size → ¬ S j := fun hj e => by have := hS _ e; omega
  have hU : Upd (fun _ => False) w1 w2 := Upd.of_below hw2
  have hU2 : Upd (fun _ => False) w1 W := hU.trans (Upd.of_below hW)
  rw [kaL_len] at hY
  exact ka_in n hn S l Bs Bm m2 N K A v (by have := h.kle; omega) h.good.kr (fun g hg => hlt (hs.lt hg)) (hlt (addr_of_cell c2).2) (hlt ha.lt) J Jx W.heap.size hJ hY W ((hU2.cellAt (addr_of_cell c1).2 (fun h => h)).trans c1) ((hU2.cellAt (addr_of_cell c2).2 (fun h => h)).trans c2)
    (hs.keep hU2 (fun _ _ h => h)) (ha.keep hU2 (fun h => h)) h0
theorem kall_gives_nil (w : World) : Calls Try.prog 69 #[.pointer none] w fun e w' => ∃ gf lb, e = .returned (.func (.func gf) #[] lb) ∧ GivesE enc7 w' gf lb [] ∧ Below w.heap.size w w' := by
  refine (kall_nil w).mono ?_
  rintro e w1 ⟨rfl, rfl⟩
  exact ⟨_, _, rfl, ⟨enters_of Try.func92 (by kernel_rfl) rfl, fun n _ S _ w2 _ => ka_none n S w2⟩, Below.refl _ _⟩

set_option maxRecDepth 100000 in
theorem values_any {w : World} {ao : Option Addr} {m c : Nat} :
    Calls Try.prog 97 #[.slice ao m c] w fun e w' => e = .returned (.func (.func 104) #[] #[.pointer (some ⟨w.heap.size, 0, none⟩)]) ∧ w' = w.alloc (.cells #[.slice ao m c] 45) := by
  go_enter Try.func97, Try.ntmps97
  go_wp2
  go_ret
  exact ⟨rfl, rfl⟩

set_option maxRecDepth 100000 in
theorem kghosts_gives {S : Nat → Prop} {w : World} {b N most few : Nat} {K G : List Int} {A : Int → Bool} (h : Ck S w b N most few K A G) :
    Calls Try.prog 76 #[.pointer (some ⟨b, 0, none⟩)] w (GhPost w G) := by
  obtain ⟨mb, vk, vg, h, -⟩ := h
  have HR := Lib.hid h.gs.rd
  have hgl := h.gle
  have g4 := h.c.2.2.2.2
  clear h
  go_enter Try.func76, Try.ntmps76
  go_wp2_with fail
  refine (cloneI_any HR.out (by omega)).mono ?_
  rintro e w1 ⟨v1, rfl, hs1, hf1, hb1⟩
  obtain ⟨ao, c, rfl⟩ := hs1.rd.nil_iff
  have F1 := Lib.hid (And.intro hs1 (And.intro hf1 hb1))
  clear hs1 hf1 hb1
  go_wp2_with fail
  refine (values_any).mono ?_
  rintro e w2 ⟨rfl, hw2⟩
  have hu : Upd (fun _ => False) w1 w2 := by rw [hw2]; exact (Upd.refl _ _).alloc _
  have hc : w2.cell? ⟨w1.heap.size, 0, none⟩ = some (.slice ao G.length c) := by rw [hw2]; exact cell_of_block (heap_alloc_last w1 _ rfl) 0
  have HF : Hid (GivesE encI w2 104 #[.pointer (some ⟨w1.heap.size, 0, none⟩)] G ∧ Below w.heap.size w w2) :=
    ⟨gl_gives (by omega) hc (F1.out.1.keep hu (fun _ _ h => h)), below_upd F1.out.2.2 hu (Nat.le_refl _) (fun _ h => h.elim)⟩
  clear hw2 hu hc
  go_wp2
  go_ret
  exact ⟨_, _, rfl, HF.out.1, HF.out.2⟩

theorem kghosts_gives_nil (w : World) : Calls Try.prog 76 #[.pointer none] w fun e w' => ∃ gf lb, e = .returned (.func (.func gf) #[] lb) ∧ GivesE encI w' gf lb [] ∧ Below w.heap.size w w' := by
  have hp : Calls Try.prog 76 #[.pointer none] w fun e w' => e = .returned (.func (.func 96) #[] #[]) ∧ w' = w := by
    go_enter Try.func76, Try.ntmps76
    go_wp2
    go_ret
    exact ⟨rfl, rfl⟩
  refine hp.mono ?_
  rintro e w1 ⟨rfl, rfl⟩
  exact ⟨_, _, rfl, ⟨enters_of Try.func96 (by kernel_rfl) rfl, fun n _ S _ w2 _ => gl_none n S w2⟩, Below.refl _ _⟩
end Go.Proofs.Ytmgcekpfnkcmjaa
