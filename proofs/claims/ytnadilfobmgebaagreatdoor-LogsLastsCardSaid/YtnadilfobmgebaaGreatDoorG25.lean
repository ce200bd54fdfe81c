/- All: which iterator it gives. A cache: Checkpoint of an empty index. A cache that is made of two new devices (lavabolaw14.Made). The small superblock. -/
import Derived.Test.YtnadilfobmgebaaGreatDoorG24
import Derived.Test.YtnadilfobmgebaaGreatDoorG20
import Derived.Test.YtnadilfobmgebaaGreatDoorG23
import Derived.Test.YtnadilfobmgebaaGreatDoorG18
import Derived.Test.YtnadilfobmgebaaGreatDoorG09
import Derived.Test.YtnadilfobmgebaaGreatDoorG04
namespace Go.Proofs.YtnadilfobmgebaaGreatDoor
open Go Go.RowKit
theorem bundrew {w w' : World} (h : Below w.drew.heap.size w.drew w') : Below w.heap.size w w' := ⟨h.os, h.tape, h.output, h.size, h.block⟩
abbrev spanV (f n : Int) : Value := .agg #[.int .i64 f, .int .i64 n]
def spanL (ps : List (Int × Bool)) (f n : Nat) : List (Int × Bool) := (ps.drop f).take n
theorem plC_drop (ps : List (Int × Bool)) (k : Nat) : plC (ps.drop k) = (plC ps).drop (k * 2) := by
  induction ps generalizing k with
  | nil => simp [plC]
  | cons p ps ih =>
    cases k with
    | zero => rfl
    | succ k =>
      rw [show (k + 1) * 2 = k * 2 + 1 + 1 by omega]
      simpa [plC] using ih k
theorem rd_drop {w : World} {ps : List (Int × Bool)} {g o c : Nat} (h : Sl w 108 2 (.slice (some ⟨g, o, none⟩) ps.length c) ps.length (plC ps)) (f : Nat) (hf : f ≤ ps.length) :
    Rd w 2 (.slice (some ⟨g, o + f * 2, none⟩) (ps.length - f) (c - f)) (ps.drop f).length (plC (ps.drop f)) := by
  obtain ⟨hl, hm, ao, cc, hv, h0, hc⟩ := h.rd
  cases hv
  refine ⟨plC_len _, by rw [List.length_drop]; omega, some ⟨g, o + f * 2, none⟩, c - f, by rw [List.length_drop], (fun h => by cases h), fun b hb j u hj => ?_⟩
  cases hb
  rw [plC_drop, List.getElem?_drop] at hj
  have := hc _ rfl (f * 2 + j) u hj
  have e : (⟨g, o, none⟩ : Addr).add (f * 2 + j) = (⟨g, o + f * 2, none⟩ : Addr).add j := by rw [Addr.add_lit, Addr.add_lit, Nat.add_assoc]
  rw [← e]; exact this
set_option maxRecDepth 100000 in
set_option maxHeartbeats 1000000 in
theorem all_in {w : World} {b mb N : Nat} {v : Value} {ps : List (Int × Bool)} {slots : Nat} (h : IndexAt w b v mb N ps slots) (f n : Nat) (hf : f < ps.length) :
    Calls Tryz.prog 156 #[.pointer (some ⟨b, 0, none⟩), spanV f n] w fun e w' => ∃ Bs Bp g off cap, e = .returned (.func (.func 196) #[] #[.pointer (some ⟨Bs, 0, none⟩), .pointer (some ⟨Bp, 0, none⟩)]) ∧
      (w.heap.size ≤ Bp ∧ w.heap.size ≤ g ∧ w.heap.size ≤ Bs) ∧ Bs < w'.heap.size ∧ Bp < w'.heap.size ∧ g < w'.heap.size ∧ w'.cell? ⟨Bs, 0, none⟩ = some (.slice (some ⟨g, off, none⟩) (spanL ps f n).length cap) ∧ w'.cell? ⟨Bp, 0, none⟩ = some (.int .i64 f) ∧
      (∀ j (h : j < (spanL ps f n).length), w'.cell? ⟨g, off + j * 2, none⟩ = some (.int .i64 (spanL ps f n)[j].1) ∧ w'.cell? ⟨g, off + j * 2 + 1, none⟩ = some (.bool (spanL ps f n)[j].2)) ∧ Below w.heap.size w w' := by
  have hu : Upd (fun _ => False) w (w.alloc (.cells #[.int .i64 f, .int .i64 n] 37)) := (Upd.refl _ _).alloc _
  have g0 := (hu.cellAt (o := 0) h.blt (fun h => h)).trans (cell_of_block h.str 0)
  simp at g0
  have hle := h.le
  have HI0 := Lib.hid h
  obtain ⟨ao, c, rfl⟩ := h.sl.rd.nil_iff
  have d1 : ¬ (f : Int) < 0 := by omega
  have d2 : ¬ (n : Int) < 0 := by omega
  have d3 : ¬ (ps.length : Int) ≤ f := by omega
  clear h
  go_enter Tryz.func156, Tryz.ntmps156
  go_wp2
  go_quiet (fail)
  go_wp2
  clear g0
  generalize hw2 : (w.alloc (.cells #[.int .i64 f, .int .i64 n] 37)).drewN nq = w2
  have hu2 : Upd (fun _ => False) w w2 := by rw [← hw2]; exact hu.drewN nq
  have hsp : w2.heap[w.heap.size]? = some (.cells #[.int .i64 f, .int .i64 n] 37) := by rw [← hw2]; exact heap_alloc_last w _ rfl
  have hz2 : w2.heap.size = w.heap.size + 1 := by rw [← hw2]; simp [World.drewN]
  clear hw2 hu
  have t0 := cell_of_block hsp 0
  have t1 := cell_of_block hsp 1
  simp at t0 t1
  have g0 := (hu2.cellAt (o := 0) HI0.out.blt (fun h => h)).trans (cell_of_block HI0.out.str 0)
  simp at g0
  obtain ⟨gb, go, rfl, hgc1⟩ : ∃ gb go, ao = some (⟨gb, go, none⟩ : Addr) ∧ ps.length ≤ c := by
    obtain ⟨hl, ⟨h1, h2⟩ | ⟨g', off', cap', cur, h1, hg, hn, _⟩⟩ := HI0.out.sl
    · omega
    · cases h1; exact ⟨g', off', rfl, hn⟩
  have hua : Upd (fun _ => False) w2 (w2.alloc (.cells #[.slice none 0 0] 227)).drew := ((Upd.refl _ _).alloc _).drew
  have HR : Hid (Rd (w2.alloc (.cells #[.slice none 0 0] 227)).drew 2 (.slice (some ⟨gb, go + f * 2, none⟩) (ps.length - f) (c - f)) (ps.drop f).length (plC (ps.drop f))) :=
    (rd_drop (HI0.out.sl.keep hu2 (fun _ _ h => h)) f (by omega)).keep hua (fun _ _ h => h)
  have HR2 : Hid (Rd w2.drew 2 (.slice (some ⟨gb, go + f * 2, none⟩) (ps.length - f) (c - f)) (ps.drop f).length (plC (ps.drop f))) :=
    (rd_drop (HI0.out.sl.keep hu2 (fun _ _ h => h)) f (by omega)).keep ((Upd.refl (fun _ => False) w2).drew) (fun _ _ h => h)
  have HT2 : Hid (w2.drew.cell? ⟨b, 0, none⟩ = some (.slice (some ⟨gb, go, none⟩) ps.length c) ∧ w2.drew.cell? ⟨w.heap.size, 0, none⟩ = some (.int .i64 f) ∧ w2.drew.cell? ⟨w.heap.size, 1, none⟩ = some (.int .i64 n)) := ⟨g0, t0, t1⟩
  have hcf : ¬ c = f := by omega
  have hfl : f ≤ ps.length := by omega
  have hbl := HI0.out.blt
  have HT : Hid ((w2.alloc (.cells #[.slice none 0 0] 227)).drew.cell? ⟨b, 0, none⟩ = some (.slice (some ⟨gb, go, none⟩) ps.length c) ∧ (w2.alloc (.cells #[.slice none 0 0] 227)).drew.cell? ⟨w.heap.size, 0, none⟩ = some (.int .i64 f) ∧
      (w2.alloc (.cells #[.slice none 0 0] 227)).drew.cell? ⟨w.heap.size, 1, none⟩ = some (.int .i64 n) ∧ (w2.alloc (.cells #[.slice none 0 0] 227)).drew.heap[w.heap.size + 1]? = some (.cells #[.slice none 0 0] 227)) :=
    ⟨(hua.cellAt (by omega) (fun h => h)).trans g0, (hua.cellAt (by omega) (fun h => h)).trans t0, (hua.cellAt (by omega) (fun h => h)).trans t1, heap_alloc_last w2 _ hz2.symm⟩
  have hnb : ¬ w.heap.size + 1 = b := by omega
  go_region_held3 (fun W => W.cell? ⟨b, 0, none⟩ = some (.slice (some ⟨gb, go, none⟩) ps.length c) ∧ W.cell? ⟨w.heap.size, 0, none⟩ = some (.int .i64 f) ∧ W.cell? ⟨w.heap.size, 1, none⟩ = some (.int .i64 n)) (go_keep)
    (first
    | ((go_at_call 195; refine (cloneP_any HR2.out (by simp; omega) (by simp; omega)).mono ?_; rintro e w3 ⟨v', rfl, hs3, hf3, hb3⟩; obtain ⟨ao', c', rfl⟩ := hs3.rd.nil_iff; have k0 := (hb3.cell (p := ⟨b, 0, none⟩) (by simp; omega)).trans HT2.out.1; have k1 := (hb3.cell (p := ⟨w.heap.size, 0, none⟩) (by simp; omega)).trans HT2.out.2.1; have k2 := (hb3.cell (p := ⟨w.heap.size, 1, none⟩) (by simp; omega)).trans HT2.out.2.2))
    | ((go_at_call 195; refine (cloneP_any HR.out (by simp; omega) (by simp; omega)).mono ?_; rintro e w3 ⟨v', rfl, hs3, hf3, hb3⟩; obtain ⟨ao', c', rfl⟩ := hs3.rd.nil_iff; have k0 := (hb3.cell (p := ⟨b, 0, none⟩) (by simp; omega)).trans HT.out.1; have k1 := (hb3.cell (p := ⟨w.heap.size, 0, none⟩) (by simp; omega)).trans HT.out.2.1; have k2 := (hb3.cell (p := ⟨w.heap.size, 1, none⟩) (by simp; omega)).trans HT.out.2.2.1; have kb := (hb3.block (w.heap.size + 1) (by simp; omega)).trans HT.out.2.2.2; have k3 := cell_of_block kb 0; have k4 := frozen_of_block kb 0; simp at k3)))
  case' refine_2.refine_3.refine_3.refine_3.refine_3.refine_3.refine_3.refine_3.refine_1.refine_2.refine_1.refine_2.refine_1.refine_2 =>
    have hw35 : Upd (fun _ => False) w3 (w3.alloc (.cells #[.slice ao' (ps.length - f) c'] 227)) := (Upd.refl _ _).alloc _
    have hbox := heap_alloc_last w3 (.cells #[.slice ao' (ps.length - f) c'] 227) rfl
    have hBb := below_upd (below_upd (Below.refl _ w) hu2 (Nat.le_refl _) (fun _ h => h.elim)) (Upd.of_below (S := fun _ => False) (bundrew hb3)) (Nat.le_refl _) (fun _ h => h.elim)
    have hF : From w.heap.size (.slice ao' (ps.length - f) c') := fun g hg => by have := hf3 g (by rw [List.length_drop]; exact hg); simp at this; omega
    have hbs0 : w.heap.size ≤ w3.heap.size := hBb.size
    have hs5 := hs3.keep hw35 (fun _ _ h => h)
    have hB5 := below_upd hBb hw35 (Nat.le_refl _) (fun _ h => h.elim)
    have t5 := (hw35.cellAt (b := w.heap.size) (o := 0) (by have := hb3.size; simp at this; omega) (fun h => h)).trans k1
    have t6 := (hw35.cellAt (b := w.heap.size) (o := 1) (by have := hb3.size; simp at this; omega) (fun h => h)).trans k2
    have hbs1 : w3.heap.size ≠ w.heap.size := by have := hb3.size; simp at this; omega
    clear hw35 hs3 hf3 hb3 k0 k1 k2 hBb
    generalize (w3.alloc (.cells #[.slice ao' (ps.length - f) c'] 227)) = w5 at *
    generalize w3.heap.size = Bs at *
  rotate_left
  have hw35 : Upd (fun j => j = w.heap.size + 1) w3 (w3.setCell ⟨w.heap.size + 1, 0, none⟩ (.slice ao' (ps.length - f) c')) := upd_setCell _ _ _ _
  have hbox := heap_setCell_same kb 0 (.slice ao' (ps.length - f) c')
  simp at hbox
  have hBa := below_upd (below_upd (Below.refl _ w) hu2 (Nat.le_refl _) (fun _ h => h.elim)) hua (Nat.le_refl _) (fun _ h => h.elim)
  have hBb := below_upd hBa (Upd.of_below (S := fun _ => False) hb3) (Nat.le_refl _) (fun _ h => h.elim)
  have hF : From w.heap.size (.slice ao' (ps.length - f) c') := fun g hg => by have := hf3 g (by rw [List.length_drop]; exact hg); simp at this; omega
  have hbs0 : w.heap.size ≤ w.heap.size + 1 := by omega
  have hs5 := hs3.keep hw35 (fun g hg e => by have := hf3 g hg; simp at this; omega)
  have hB5 := below_upd hBb hw35 (Nat.le_refl _) (fun j e => by omega)
  have t5 := (hw35.cellAt (b := w.heap.size) (o := 0) (by have := hb3.size; simp at this; omega) (by omega)).trans k1
  have t6 := (hw35.cellAt (b := w.heap.size) (o := 1) (by have := hb3.size; simp at this; omega) (by omega)).trans k2
  have hbs1 : w.heap.size + 1 ≠ w.heap.size := by omega
  clear hw35 hs3 hf3 hb3 k0 k1 k2 k3 k4 kb hBa hBb hnb hua HT HT2 HR HR2
  generalize (w3.setCell ⟨w.heap.size + 1, 0, none⟩ (.slice ao' (ps.length - f) c')) = w5 at *
  generalize w.heap.size + 1 = Bs at *
  all_goals
    obtain ⟨g', off', cap', cur, hve, hg', hcs, hcc⟩ := hs5.at (by simp; omega)
  all_goals
    cases hve
    have hel : Hid (∀ j (h : j < (ps.drop f).length), w5.cell? ⟨g', off' + j * 2, none⟩ = some (.int .i64 (ps.drop f)[j].1) ∧ w5.cell? ⟨g', off' + j * 2 + 1, none⟩ = some (.bool (ps.drop f)[j].2)) :=
      fun j h => ⟨(cell_of_block hg' _).trans (hcc _ _ (plC_at h).1), (cell_of_block hg' _).trans (hcc (j * 2 + 1) _ (plC_at h).2)⟩
    have hgl := lt_of_block hg'
    have hgf := hF g' rfl
    have hbl5 := lt_of_block hbox
    have hcap : ps.length - f ≤ c' := by
      obtain ⟨_, ⟨h1, _⟩ | ⟨_, _, _, _, h1, _, h2, _⟩⟩ := hs5
      · cases h1
      · cases h1; simpa using h2
    have hgBs : g' ≠ Bs := fun e => by
      rw [e] at hg'
      rw [hg'] at hbox
      simp at hbox
    have y0 := cell_of_block hbox 0
    have y1 := frozen_of_block hbox 0
    simp at y0
    have HBX := Lib.hid hbox
    clear hcs hcc hg' hs5 hbox
    by_cases hlt : (n : Int) < ((ps.length - f : Nat) : Int)
    · have hn1 : n ≤ ps.length - f := by omega
      have hn2 : n ≤ c' := by omega
      have hL : Hid (spanL ps f n = (ps.drop f).take n) := rfl
      have hLn : (spanL ps f n).length = n := by simp [spanL]; omega
      go_wp2
      go_ret
      have hus : Upd (fun j => j = Bs) w5 (w5.setCell ⟨Bs, 0, none⟩ (.slice (some ⟨g', off', none⟩) n c')) := upd_setCell _ _ _ _
      have hspl := (addr_of_cell t5).2
      refine ⟨Bs, w.heap.size, g', off', c', rfl, ⟨Nat.le_refl _, hgf, hbs0⟩, by rw [World.size_setCell]; exact hbl5, by rw [World.size_setCell]; exact hspl, by rw [World.size_setCell]; exact hgl, ?_, (hus.cellAt hspl (fun e => hbs1 e.symm)).trans t5, ?_, hB5.setCell (p := ⟨Bs, 0, none⟩) hbs0 _⟩
      · rw [hLn, cell_of_block (heap_setCell_same HBX.out 0 _)]; simp
      · intro j hj
        have hj2 : j < (ps.drop f).length := by rw [hLn] at hj; simp; omega
        have e : (spanL ps f n)[j] = (ps.drop f)[j] := by simp [spanL]
        rw [e]
        exact ⟨(hus.cellAt hgl (fun e => hgBs e)).trans (hel.out j hj2).1, (hus.cellAt hgl (fun e => hgBs e)).trans (hel.out j hj2).2⟩
    · go_wp2
      go_ret
      have hL : spanL ps f n = ps.drop f := by unfold spanL; rw [List.take_of_length_le]; simp; omega
      rw [hL]
      have hspl := (addr_of_cell t5).2
      exact ⟨Bs, w.heap.size, rfl, g', ⟨Nat.le_refl _, hgf, hbs0⟩, hbl5, hspl, hgl, off', ⟨c', by rw [List.length_drop]; exact y0⟩, t5, hel.out, hB5⟩
end Go.Proofs.YtnadilfobmgebaaGreatDoor
namespace Go.Proofs.YtnadilfobmgebaaGreatDoor
open Go Go.RowKit Go.Shelf
attribute [local go_sem] Oper.semAt_some
section
variable {own own' : Nat → Nat} {w w' : World} {c : Nat} {n : CaN} {p : CaP} {a : CaS}
def Box (own : Nat → Nat) (w : World) (b : Nat) (o : Obj) : Prop := w.heap[b]? = some o ∧ own b = 0
theorem Box.did {b : Nat} {o : Obj} (h : Box own w b o) (hd : Did own own' w w') : Box own' w' b o :=
  ⟨(hd.upd.block b (lt_of_block h.1) (fun hs => hs.1 h.2)).trans h.1, (hd.old b (lt_of_block h.1)).trans h.2⟩
theorem Box.new {b : Nat} {o : Obj} (h : Box own w b o) (hu : Upd (fun _ => False) w w') : Box own w' b o := ⟨hu.blockv h.1, h.2⟩
theorem build_none {w : World} (seq : Nat) (hs : seq ≤ 1099511627776) (hN : Nib w) : ∀ W, Below w.heap.size w W → Calls Tryz.prog 227 #[.int .i64 (seq : Int), .slice none 0 0] W (BuildPost W seq []) := fun _W hb => build_nil seq hs (hN.below hb)
theorem Box.made (hf : ∀ j, w.heap.size ≤ j → own j = 0) (o : Obj) : Box own (w.alloc o) w.heap.size o := ⟨heap_alloc_last w o rfl, hf _ (Nat.le_refl _)⟩
theorem ca_ssd_flush0 (h : CaAt own w c n p a) (hP : a.dP = []) : Calls Tryz.prog 72 #[ptr p.ssd] w (CaOut own w c n p { a with dF := flushF a.dF a.dO, dO := [], dP := [] } (.int .i64 0)) := by
  have := ca_ssd_flush h
  rw [hP] at this
  exact this
theorem ca_back_flush0 (h : CaAt own w c n p a) (hP : a.bP = []) : Calls Tryz.prog 72 #[ptr p.back] w (CaOut own w c n p { a with bF := flushF a.bF a.bO, bO := [], bP := [] } (.int .i64 0)) := by
  have := ca_back_flush h
  rw [hP] at this
  exact this
theorem ca_save (h : CaAt own w c n p a) (hP : a.dP = []) (hO : a.dO.length ≤ 50000) (seq wh : Nat) (hwh : wh ≤ 1) (lo : Option Addr) (k lc : Nat) (E : List Ent) (hE : E.length = k) (hk : needN k ≤ n.pa) (hk1 : k ≤ 100000)
    (hbuild : ∀ W, Below w.heap.size w W → Calls Tryz.prog 227 #[.int .i64 (seq : Int), .slice lo k lc] W (BuildPost W seq E)) :
    Calls Tryz.prog 158 #[ptr p.ssd, .int .i64 1, .int .i64 (n.pa : Int), .int .i64 (wh : Int), .int .i64 (seq : Int), .slice lo k lc] w
      (CaOut own w c n p { a with dF := flushF a.dF (a.dO ++ ckO (1 + wh * n.pa) n.pa (pagesB seq E)), dO := [], dP := [] } (.int .i64 0)) := by
  have ho := h.open2
  rw [hP] at ho
  have hz := h.ok.z
  have hs := h.fl
  have hs1 := h.ok.s1
  have hp2 := h.ok.p2
  unfold CaN.size at hz hs
  exact (psave ho (fun _ h => .inr h) 1 n.pa seq wh hwh lo k lc E hE hk hk1 (by omega) (by omega) hbuild).mono fun _ _ ⟨he, hd, hu⟩ => ⟨he, _, h.turn2 hu hd (flushF_len _ _), h.did2 hu⟩
theorem CaAt.nobody (h : CaAt own w c n p a) {S : Nat → Prop} (hu : Upd S w w') (hS : ∀ j, S j → own j = 0 ∧ j ≠ 0 ∧ j ≠ 1) : CaAt own w' c n p a := by
  have hne : ∀ (k j : Nat), k ≠ 0 → own j = k → ¬ S j := fun k j hk hj hs => hk (hj.symm.trans (hS j hs).1)
  exact { h with
    str := (hu.block c h.clt (hne 1 c (by decide) h.oc)).trans h.str
    ssd := h.ssd.keep hu (fun j hj => hne _ j (by decide) hj)
    back := h.back.keep hu (fun j hj => hne _ j (by decide) hj)
    jr := (Jn.thing _ _ _ _ _ _ _).keep h.jr hu (fun j hj => hne _ j (by decide) hj)
    ix := (Ix.thing _ _ _ _).keep h.ix hu (fun j hj => hne _ j (by decide) hj)
    ss := (Ss.thing _ _).keep h.ss hu (fun j hj => hne _ j (by decide) hj)
    lg := (Lg.thing _ _ _).keep h.lg hu (fun j hj => hne _ j (by decide) hj)
    ck := h.ck.keep hu (fun j hj => hne _ j (by decide) hj)
    sm := (Mp.thing _ _ _).keep h.sm hu (fun j hj => hne _ j (by decide) hj)
    far := fun j hj => h.far j (Nat.le_trans hu.size hj)
    nib := h.nib.keep hu (fun hs => (hS _ hs).2.1 rfl)
    tur := h.tur.keep hu (fun hs => (hS _ hs).2.2 rfl) }
theorem not_cells {b : Nat} {o : Obj} {u : Value} {i : Nat} {b2 : Nat} (h : w.heap[b]? = some o) (ho : o.isCells = false) (hc : w.cell? ⟨b2, i, none⟩ = some u) : b ≠ b2 := by
  rintro rfl
  cases o <;> simp [World.cell?, h, Obj.isCells] at hc ho
theorem upd_put (W : World) (l : Nat) (o' : Obj) : Upd (fun j => j = l) W (W.putObj l o') :=
  ⟨rfl, rfl, rfl, by simp [World.putObj], fun k _ hk => by
    simp only [World.putObj]
    rw [Array.getElem?_setIfInBounds_ne (fun e => hk e.symm)]⟩
theorem CaAt.putObj (h : CaAt own w c n p a) {b : Nat} {o : Obj} (hb : Box own w b o) (ho : o.isCells = false) (o' : Obj) : CaAt own (w.putObj b o') c n p a :=
  h.nobody (upd_put w b o') (fun j e => by subst e; exact ⟨hb.2, not_cells hb.1 ho (h.nib.c 0 (by decide)), not_cells hb.1 ho h.tur.c0⟩)
theorem Did.putObj (h : Did own own' w w') {b : Nat} (hb : w.heap.size ≤ b) (o' : Obj) : Did own own' w (w'.putObj b o') :=
  ⟨h.upd.new (upd_put w' b o') (fun i hi e => by omega), h.old, h.new, fun j hj => h.far j (by simpa [World.putObj] using hj)⟩
def ckpS (n : CaN) (a : CaS) (E : List Ent) : CaS :=
  { a with bF := flushF a.bF a.bO, bO := [], bP := [], dF := flushF (flushF a.dF a.dO) (ckO (1 + (1 - a.which) * n.pa) n.pa (pagesB (a.next - 1) E)), dO := [], dP := [], which := 1 - a.which, cov := a.next - 1, W := [], st := freeTo a.st (pos a.st 3) }
def CkOut (own : Nat → Nat) (w : World) (c : Nat) (n : CaN) (p : CaP) (a : CaS) (E : List Ent) (e : Ending) (w' : World) : Prop := CaOut own w c n p (ckpS n a E) (.int .i64 0) e w'
set_option maxRecDepth 100000 in
set_option maxHeartbeats 1000000 in
theorem ckpt_empty (h : CaAt own w c n p a) (hbP : a.bP = []) (hdP : a.dP = []) (hdO : a.dO.length ≤ 50000) (hps : a.ps = List.replicate n.bl (-1, false)) :
    Calls Tryz.prog 99 #[ptr c] w (CkOut own w c n p a []) := by
  obtain ⟨w1, hw1⟩ : ∃ w1, w1 = w.alloc (.cells #[ptr c] 95) := ⟨_, rfl⟩
  have hu1 : Upd (fun _ => False) w w1 := by rw [hw1]; exact (Upd.refl _ w).alloc _
  have h1 := h.new hu1
  have hb1 : Box own w1 w.heap.size (.cells #[ptr c] 95) := by rw [hw1]; exact Box.made h.far _
  have d1 := h.didNew hu1
  have HH := Lib.hid (And.intro h (And.intro hbP (And.intro hdP (And.intro hdO hps))))
  have hcl := h.clt
  obtain ⟨-, c15, -⟩ := h.cells
  have H1 := Lib.hid (And.intro h1 (And.intro hb1 d1))
  have HC := Lib.hid (ca_back_flush0 h1 hbP)
  clear h hbP hdP hdO hps h1 hb1 d1 hu1
  refine (callsIn_wide (n := 3)).1 ?_
  refine callsIn_of_wp_marks Tryz.func99 rfl trivial ?_ rfl
  simp only [Tryz.ntmps99, List.size_toArray, List.length_cons, List.length_nil, Nat.reduceAdd, Nat.reduceSub, Array.replicate_succ, Array.replicate_zero, List.push_toArray, List.append_toArray, List.nil_append, List.cons_append]
  refine wpIn_wide.2 ?_
  go_wp2_with fail
  rw [← hw1]
  clear hw1 c15
  refine HC.out.mono ?_
  rintro e w2 ⟨rfl, own2, hca2, hd2⟩
  obtain ⟨h1, hb1, d1⟩ := H1.out
  have hb2 := hb1.did hd2
  have c14 := hca2.cells.1
  have cb := cell_of_block hb2.1 0
  have H2 := Lib.hid (And.intro hca2 (And.intro hb2 (d1.trans hd2)))
  have HC2 := Lib.hid (ca_ssd_flush0 hca2 HH.out.2.2.1)
  clear hca2 hd2 hb2 h1 hb1 d1 HC H1
  go_wp2_with fail
  refine HC2.out.mono ?_
  rintro e w3 ⟨rfl, own3, hca3, hd3⟩
  obtain ⟨h2, hb2, d2⟩ := H2.out
  have hb3 := hb2.did hd3
  have H3 := Lib.hid (And.intro hca3 (And.intro hb3 (d2.trans hd3)))
  clear hca3 hd3 hb3 h2 hb2 d2 HC2 H2 c14 cb
  go_wp2_with fail
  obtain ⟨h3, hb3, d3⟩ := H3.out
  obtain ⟨w4, hw4⟩ : ∃ w4, w4 = w3.alloc (.cells #[.slice none 0 0] 232) := ⟨_, rfl⟩
  have hu4 : Upd (fun _ => False) w3 w4 := by rw [hw4]; exact ((Upd.refl _ w3).alloc _)
  have hud : Upd (fun _ => False) w4 w4.drew := (Upd.refl _ w4).drew
  have h4 := h3.new hu4
  have hb4 := hb3.new hu4
  have hl4 : Box own3 w4 w3.heap.size (.cells #[.slice none 0 0] 232) := by rw [hw4]; exact Box.made h3.far _
  have d4 := d3.trans (h3.didNew hu4)
  have H4 := Lib.hid (And.intro (h4.new hud) (And.intro (hb4.new hud) (And.intro (hl4.new hud) (d4.trans (h4.didNew hud)))))
  obtain ⟨vi, mi, hix, hib, his⟩ := (h4.new hud).ix
  have hpsl := h4.pl
  have hb1 := HH.out.1.ok.b1
  have hA := all_in hix 0 n.bl (by rw [hpsl]; omega)
  have HA := Lib.hid hA
  obtain ⟨-, -, -, -, c18, -⟩ := h4.cells
  have s1 := h4.sup.2.1
  have cb := cell_of_block hb4.1 0
  rw [← hw4]
  clear h3 hb3 d3 hu4 h4 hb4 hl4 d4 hix hib his hA hpsl hw4 hud
  go_still_tail 10, (by kernel_rfl)
  change wpList _ _ _ _ _ w4.drew
  generalize w4.drew = w4d at *
  clear c18 s1 cb
  go_wp2_with fail
  refine HA.out.mono ?_
  rintro e w5 ⟨Bs, Bp, g, off, cap, rfl, ⟨hB1, hB2, hB3⟩, hBs, hBp, hg, hcs, hcp, hcl, hb5⟩
  go_wp2_with fail
  have hle : (spanL a.ps 0 n.bl).length ≤ 4096 := by
    have := HH.out.1.ok.b2
    rw [HH.out.2.2.2.2]; simp [spanL]; omega
  have hall : ∀ x ∈ spanL a.ps 0 n.bl, x = (-1, false) := by
    intro x hx
    have hm : x ∈ a.ps := List.mem_of_mem_drop (List.mem_of_mem_take hx)
    rw [HH.out.2.2.2.2] at hm
    exact (List.mem_replicate.1 hm).2
  have hgood : ∀ k (h : k < (spanL a.ps 0 n.bl).length), (spanL a.ps 0 n.bl)[k] = (-1, false) ∨ 0 ≤ (spanL a.ps 0 n.bl)[k].1 := by
    exact fun k hk => .inl (hall _ (List.getElem_mem hk))
  have hvis : vis (spanL a.ps 0 n.bl) 0 = [] := by
    have h : ∀ k, k ≤ (spanL a.ps 0 n.bl).length → visTo (spanL a.ps 0 n.bl) 0 k = [] := by
      intro k
      induction k with
      | zero => intro _; rfl
      | succ k ih =>
        intro hk
        rw [visTo_miss (by omega) (hall _ (List.getElem_mem (by omega)))]
        exact ih (by omega)
    exact h _ (Nat.le_refl _)
  have hN : (vis (spanL a.ps 0 n.bl) 0).length = 0 := by rw [hvis]; rfl
  have hu5 : Upd (fun _ => False) w4d w5 := Upd.of_below hb5
  have HK := Lib.hid (And.intro hN hu5)
  refine (wpIn_wide (n := 4)).1 ?_
  refine wpIn_rangeFunc_ownH rfl (by omega) (gf := 196) (lb := #[.pointer (some ⟨Bs, 0, none⟩), .pointer (some ⟨Bp, 0, none⟩)]) rfl trivial (enters_of Tryz.func196 (by kernel_rfl) rfl)
    (it_stops _ (by omega) (fun j => w5.heap.size ≤ j) Bs Bp g off cap (spanL a.ps 0 n.bl) 0 w5 hle (by omega) hgood hg hBp hBs (by omega) (by omega) hcs hcp hcl) supd_t (fun W l o o' hl => supd_b (M := w5.heap.size) (fun j h => h) W l o o' hl) (Below.refl _ _) (fun _ => rfl)
    (fun pre W => Below w5.heap.size w5 W)
    (fun _ _ _ => False)
    (ownFrom_below (Nat.le_refl _) (by omega))
    (fun _ _ _ _ _ hs _ _ => hs)
    (Below.refl _ _)
    (fun x a' W => True)
    (fun x a' => fun s X Y row hs hg hr => trivial)
    ?assign ?body ?done ?stop
  case assign =>
    rintro l pre x W K hB hK
    gi_wp2
    exact hK _ _ (KeepsFrom.of_grownBy (World.grownBy_alloc W _ none) (fun j e => by cases e)) ((Upd.refl _ _).alloc _) (hB.alloc hB.size _) trivial
  case body =>
    rintro l pre x a' W hl _ hB _ hlt
    rw [HK.out.1] at hlt
    omega
  case done =>
    rintro D ys W hD hys hB hK
    clear hcs hcp hcl hb5 hle hall hgood hvis hN hu5 hys
    obtain ⟨h4, hb4, hl4, d4⟩ := H4.out
    have d4' := Lib.hid d4.upd.size
    have huW : Upd (fun _ => False) w4d W := HK.out.2.trans (Upd.of_below hB)
    have h5 := h4.new huW
    have hb5 := hb4.new huW
    have hl5 := hl4.new huW
    have hD5 : Box own3 W D (.deferred (some [])) := ⟨hK, h4.far D (by have := HK.out.2.size; omega)⟩
    have d5 := d4.trans (h4.didNew huW)
    have hnx : JnGood (1 + 2 * n.pa) n.jo a.cov a.next a.W := h5.jr.good
    have hnw : 1 ≤ a.next := by have := hnx.wl; omega
    have hnm : a.next ≤ 1099511627777 := hnx.mx
    have hwh : a.which ≤ 1 := h5.wh
    have HN := Lib.hid (ca_jnext h5)
    obtain ⟨-, -, c16, c17, -⟩ := h5.cells
    have cb := cell_of_block hb5.1 0
    have e1 : ((1 - a.which : Nat) : Int) = 1 - (a.which : Int) := by omega
    have e2 : ((a.next - 1 : Nat) : Int) = (a.next : Int) - 1 := by omega
    have HE := Lib.hid (And.intro e1 e2)
    have H5 := Lib.hid (And.intro h5 (And.intro hb5 (And.intro hl5 (And.intro hD5 d5))))
    clear h4 hb4 hl4 d4 huW h5 hb5 hl5 hD5 d5 hB hK hnx e1 e2
    go_wp2_with fail
    refine HN.out.mono ?_
    rintro e w6 ⟨rfl, rfl⟩
    go_wp2_with fail
    obtain ⟨h5, hb5, hl5, hD5, d5⟩ := H5.out
    have hud : Upd (fun _ => False) W W.drew := (Upd.refl _ W).drew
    have hsv := ca_save (h5.new hud) rfl (by simp) (a.next - 1) (1 - a.which) (by omega) none 0 0 [] rfl (by have := h5.ok.p1; unfold needN; omega) (by omega) (build_none (a.next - 1) (by omega) (h5.new hud).nib)
    have HS := Lib.hid hsv
    have H6 := Lib.hid (And.intro (hb5.new hud) (And.intro (hl5.new hud) (And.intro (hD5.new hud) (d5.trans (h5.didNew hud)))))
    obtain ⟨c14, -⟩ := h5.cells
    have c7 := h5.lay.1
    obtain ⟨-, -, -, -, c4, -⟩ := h5.sup
    have cl := cell_of_block hl5.1 0
    clear h5 hb5 hl5 hD5 d5 hud hsv c16 c17
    go_still_tail 17, (by kernel_rfl)
    change wpList _ _ _ _ _ W.drew
    generalize W.drew = W2 at *
    clear c14 c7 c4 cl cb
    go_wp2_with fail
    rw [← HE.out.1, ← HE.out.2]
    refine HS.out.mono ?_
    rintro e w7 ⟨rfl, own7, hca7, hd7⟩
    obtain ⟨hb6, hl6, hD6, d6⟩ := H6.out
    have hb7 := hb6.did hd7
    have hD7 := hD6.did hd7
    have d7 := d6.trans hd7
    have hcl7 := hca7.clt
    have cb := cell_of_block hb7.1 0
    have c16 := hca7.cells.2.2.1
    have f16 := hca7.fz 16
    have c17 := hca7.cells.2.2.2.1
    have hne : w.heap.size ≠ c := by omega
    have H7 := Lib.hid (And.intro hca7 (And.intro hb7 (And.intro hD7 d7)))
    clear hca7 hd7 hb6 hl6 hD6 d6 hb7 hD7 d7
    go_wp2_with fail
    obtain ⟨h7, hb7, hD7, d7⟩ := H7.out
    have h8 := h7.turn1 (1 - a.which) (by omega)
    have d8 := d7.trans (h7.did1 (.int .i64 ((1 - a.which : Nat) : Int)))
    have hus := upd_setCell w7 c 16 (.int .i64 ((1 - a.which : Nat) : Int))
    have hb8 : Box own7 (w7.setCell ⟨c, 16, none⟩ (.int .i64 ((1 - a.which : Nat) : Int))) w.heap.size (.cells #[ptr c] 95) := ⟨(hus.block _ (lt_of_block hb7.1) hne).trans hb7.1, hb7.2⟩
    have hD8 : Box own7 (w7.setCell ⟨c, 16, none⟩ (.int .i64 ((1 - a.which : Nat) : Int))) D (.deferred (some [])) := ⟨(hus.block _ (lt_of_block hD7.1) (fun e => by have := hD7.2; rw [e, h7.oc] at this; exact absurd this (by decide))).trans hD7.1, hD7.2⟩
    generalize w7.setCell ⟨c, 16, none⟩ (.int .i64 ((1 - a.which : Nat) : Int)) = w8 at *
    have H8 := Lib.hid (And.intro hb8 (And.intro hD8 d8))
    have HV := Lib.hid (ca_cover h8 ((a.next - 1 : Nat) : Int) HE.out.2)
    clear h7 hb7 hD7 d7 h8 d8 hus hb8 hD8 cb c16 f16 c17
    refine HV.out.mono ?_
    rintro e w9 ⟨rfl, own9, hca9, hd9⟩
    obtain ⟨hb8, hD8, d8⟩ := H8.out
    have hb9 := hb8.did hd9
    have cb := cell_of_block hb9.1 0
    have H9 := Lib.hid (And.intro (hD8.did hd9) (d8.trans hd9))
    have HR := Lib.hid (ca_free hca9)
    clear hb8 hD8 d8 hb9 hca9 hd9
    go_wp2_with fail
    refine HR.out.mono ?_
    rintro e w10 ⟨rfl, own10, hca10, hd10⟩
    obtain ⟨hD9, d9⟩ := H9.out
    have HX := Lib.hid (And.intro hca10 (And.intro (hD9.did hd10) (d9.trans hd10)))
    clear hca10 hd10 hD9 d9 cb
    go_wp2
    obtain ⟨h10, hD10, d10⟩ := HX.out
    refine ⟨by simp, .inl ⟨_, _, rfl, run_takeDeferred hD10.1, ?_⟩⟩
    have hs0 := d4'.out
    exact ⟨_, results_tmp rfl _ _ _, rfl, own10, h10.putObj hD10 rfl _, d10.putObj (by have := HK.out.2.size; omega) _⟩
  case stop =>
    rintro D c pre W _ _ h _
    exact h.elim
end
def madeS (n : CaN) : CaS := ckpS n (caS0 n 1 0 (List.replicate n.size zB) [] [] (List.replicate n.bl zB) [] []) []
def MadeOut (w : World) (n : CaN) (e : Ending) (w' : World) : Prop :=
  ∃ c p own, e = .returned (.tuple #[ptr c, ptr p.ssd, ptr p.back]) ∧ CaAt own w' c n p (madeS n) ∧ Below w.heap.size w w' ∧ ∀ j, j < w.heap.size → own j = 0
set_option maxRecDepth 100000 in
set_option maxHeartbeats 1000000 in
theorem made_ok (n : CaN) (hok : n.Ok) (w : World) (nib : Nib w) (tur : Tur w) : Calls Tryz.prog 53 #[.agg n.C.toArray] w (MadeOut w n) := by
  obtain ⟨U, hU⟩ : ∃ U, U = n.C := ⟨_, rfl⟩
  obtain ⟨V, hV⟩ : ∃ V, V = layC n.sl n.jo n.pa n.lo := ⟨_, rfl⟩
  obtain ⟨w1, hw1⟩ : ∃ w1, w1 = w.alloc (.cells U.toArray 34) := ⟨_, rfl⟩
  have hg1 : w1.heap[w.heap.size]? = some (.cells U.toArray 34) := by rw [hw1]; exact heap_alloc_last w _ rfl
  have hu1 : Upd (fun _ => False) w w1 := by rw [hw1]; exact (Upd.refl _ w).alloc _
  have hrU : w1.rangeAt w.heap.size 0 U := range_of_block hg1
  have hsU : (Tryz.prog.info? 34).map (·.size) = some U.length := by rw [hU]; exact infoSup
  have HPl : Hid (Calls Tryz.prog 34 #[.agg U.toArray] w1 fun e w' => e = .returned (.tuple #[.agg V.toArray, .int .i64 0]) ∧ Below w1.heap.size w1 w') := by
    show Calls _ _ _ _ _
    rw [hU, hV]
    obtain ⟨b1, b2, s1, s2, j1, j2, l1, l2, a1, a2, p1, p2, z⟩ := hok
    exact plan_ok n.id n.bl n.sl n.jo n.pa n.lo n.ba b1 b2 s1 s2 j1 j2 l1 l2 a1 a2 p1 p2 z w1
  rw [← hU]
  have H := Lib.hid (And.intro nib (And.intro tur (And.intro hok (And.intro hU (And.intro hV (And.intro hg1 hu1))))))
  rw [hw1] at hrU
  have HW1 := Lib.hid hw1
  have HU := Lib.hid (And.intro hrU hsU)
  clear nib tur hok hU hV hg1 hu1 hrU hsU hw1
  go_enter Tryz.func53, Tryz.ntmps53
  go_wp2_with (first
    | (refine wpList_load_mid rfl _ _ rfl _ _ rfl _ _ HU.out.1 Tryz.underlying34 rfl HU.out.2 ?_)
    | fail)
  rw [← HW1.out]
  refine HPl.out.mono ?_
  rintro e w2 ⟨rfl, hb2⟩
  obtain ⟨nib, tur, hok, hU, hV, hg1, hu1⟩ := H.out
  obtain ⟨w3, hw3⟩ : ∃ w3, w3 = w2.alloc (.cells V.toArray 82) := ⟨_, rfl⟩
  have hu2 : Upd (fun _ => False) w1 w2 := Upd.of_below hb2
  have hu3 : Upd (fun _ => False) w2 w3 := by rw [hw3]; exact (Upd.refl _ w2).alloc _
  have hg3 : w3.heap[w2.heap.size]? = some (.cells V.toArray 82) := by rw [hw3]; exact heap_alloc_last w2 _ rfl
  have hg13 := (hu2.trans hu3).blockv hg1
  have hU3 := (hu1.trans hu2).trans hu3
  have hVl : V.length = 7 := by rw [hV]; rfl
  have hV1 : ∀ v ∈ V, v.oneCell' = true := by rw [hV]; exact layC_mem _ _ _ _
  have hsV : Hid ((Tryz.prog.info? 82).map (·.size) = some V.length) := by show _ = _; rw [hVl]; exact infoLay
  have v6 : w3.cell? ⟨w2.heap.size, 6, none⟩ = some (.int .i64 (n.size : Int)) := by
    rw [cell_of_block hg3, hV]; simp [layC, CaN.size]
  have u1 : w3.cell? ⟨w.heap.size, 1, none⟩ = some (.int .i64 (n.bl : Int)) := by
    rw [cell_of_block hg13, hU]; simp [CaN.C]
  have hz4 : n.size ≤ 4096 := hok.z
  have hz1 : 1 ≤ n.size := by unfold CaN.size; omega
  have hD1 := dnew_ok n.size hz1 hz4 w3
  have H3 := Lib.hid (And.intro hU3 (And.intro hg13 (And.intro v6 u1)))
  have HV := Lib.hid (And.intro hVl (And.intro hV1 hD1))
  have HW3 := Lib.hid hw3
  rw [hw3] at v6
  have hlt := lt_of_block hg13
  clear nib tur hok hU hV hg1 hu1 hb2 hu2 hu3 hg3 hg13 hU3 hVl hV1 u1 hD1 hw3
  go_wp2_with (first
    | (refine wpList_store_new rfl _ _ _ rfl _ _ _ rfl rfl (by rw [HV.out.1]; rfl) hsV.out HV.out.2.1 ?_)
    | fail)
  rw [← HW3.out]
  refine HV.out.2.2.mono ?_
  rintro e w4 ⟨b1, rfl, hX1, hlo1, hb4⟩
  have hu4 : Upd (fun _ => False) w3 w4 := Upd.of_below hb4
  have u1 := hu4.cellv H3.out.2.2.2 (fun h => h)
  obtain ⟨nib, tur, hok, hU, hV, hg1, hu1⟩ := H.out
  have hD2 := Lib.hid (dnew_ok n.bl hok.b1 hok.b2 w4)
  have H4 := Lib.hid (And.intro hX1 hu4)
  clear hX1 hb4 hu4 nib tur hok hU hV hg1 hu1 v6 hlt
  go_wp2_with fail
  refine hD2.out.mono ?_
  rintro e w5 ⟨b2, rfl, hX2, hlo2, hb5⟩
  have hu5 : Upd (fun _ => False) w4 w5 := Upd.of_below hb5
  obtain ⟨nib, tur, hok, hU, hV, hg1, hu1⟩ := H.out
  have hU5 := (H3.out.1.trans H4.out.2).trans hu5
  obtain ⟨own, hown⟩ : ∃ own : Nat → Nat, own = fun j => if w3.heap.size ≤ j ∧ j < w4.heap.size then 2 else if w4.heap.size ≤ j ∧ j < w5.heap.size then 3 else 0 := ⟨_, rfl⟩
  have hs3 := H3.out.1.size
  have hs4 := H4.out.2.size
  have hs5 := hu5.size
  have h2 : Dv (fun j => own j = 2) w5 b1 (List.replicate n.size zB) [] [] := by
    have a1 : Dv (fun j => w3.heap.size ≤ j ∧ j < w4.heap.size) w4 b1 (List.replicate n.size zB) [] [] := H4.out.1.out (fun j h1 h2 => ⟨h2, h1⟩)
    exact ((a1.new hu5).out (fun j _ hj => by rw [hown]; simp [hj.1, hj.2]))
  have h3 : Dv (fun j => own j = 3) w5 b2 (List.replicate n.bl zB) [] [] := hX2.out (fun j h1 h2 => by
    rw [hown]; have h2' : w4.heap.size ≤ j := h2; simp only []; rw [if_neg (by omega), if_pos ⟨h2', h1⟩])
  have hnl := nib.lt
  have htl := tur.lt
  have hC := cnew (n := n) h2 h3 (fun j hj => by rw [hown]; simp only []; rw [if_neg (by omega), if_neg (by omega)]) (nib.keep hU5 (fun h => h)) (tur.keep hU5 (fun h => h))
    (by rw [hown]; simp only []; rw [if_neg (by omega), if_neg (by omega)]) (by rw [hown]; simp only []; rw [if_neg (by omega), if_neg (by omega)]) hok (by simp) (by simp) 1 0 (by omega) (by omega)
  rw [← hU] at hC
  have hg15 := (H4.out.2.trans hu5).blockv H3.out.2.1
  have rU := range_of_block hg15
  have HC := Lib.hid hC
  have HO := Lib.hid (And.intro hown (And.intro hU5 rU))
  clear hX2 hb5 hu5 nib tur hok hU hV hg1 hu1 hU5 hown h2 h3 hC hg15 rU u1 hnl htl
  go_wp2_with (first
    | (refine wpList_load_mid rfl _ _ rfl _ _ rfl _ _ HO.out.2.2 Tryz.underlying34 rfl HU.out.2 ?_)
    | fail)
  refine HC.out.mono ?_
  rintro e w6 ⟨c, p, own6, rfl, hp1, hp2, hca, hdid⟩
  subst hp1 hp2
  have HK := Lib.hid (ckpt_empty hca rfl rfl (by simp [caS0]) rfl)
  have H6 := Lib.hid hdid
  clear hca hdid
  go_wp2_with fail
  refine HK.out.mono ?_
  rintro e w7 ⟨rfl, own7, hca7, hd7⟩
  have H7 := Lib.hid (And.intro hca7 (H6.out.trans hd7))
  clear hca7 hd7
  go_wp2
  obtain ⟨hown, hU5, -⟩ := HO.out
  obtain ⟨h7, d7⟩ := H7.out
  have h0 : ∀ j, j < w.heap.size → own j = 0 := fun j hj => by rw [hown]; simp only []; rw [if_neg (by omega), if_neg (by omega)]
  refine bodyPost_ret (v := .tuple #[ptr c, ptr p.ssd, ptr p.back]) (by simp [results, Tryz.results53, go_sem]) rfl ⟨c, p, own7, rfl, h7, ?_, fun j hj => ?_⟩
  · exact Upd.below (hU5.new d7.upd (fun i hi hs => hs.1 (h0 i hi)))
  · rw [d7.old j (by omega), h0 j hj]
theorem superC_one (id bl sl jo pa lo ba : Int) : ∀ v ∈ superC id bl sl jo pa lo ba, v.oneCell' = true := by
  intro v hv
  simp only [superC, List.mem_cons, List.not_mem_nil, or_false] at hv
  rcases hv with rfl | rfl | rfl | rfl | rfl | rfl | rfl <;> rfl
set_option maxRecDepth 100000 in
set_option maxHeartbeats 2000000 in
theorem small_ok (w : World) : Calls Tryz.prog 15 #[.int .i64 9, .int .i64 2, .int .i64 8] w fun e w' => e = .returned (.agg (superC 7 9 2 8 1 2 3).toArray) ∧ Below w.heap.size w w' := by
  obtain ⟨L, hL⟩ : ∃ L, L = superC 7 9 2 8 1 2 3 := ⟨_, rfl⟩
  have h1 : ∀ v ∈ L, v.oneCell' = true := by rw [hL]; exact superC_one 7 9 2 8 1 2 3
  have h7 : L.length = 7 := by rw [hL]; rfl
  have hi : (Tryz.prog.info? 34).map (·.size) = some L.length := by rw [h7]; exact infoSup
  go_enter Tryz.func15, Tryz.ntmps15
  go_wp2_with (first
    | (go_at_call 56; refine (need_any 2 (by omega) (by omega) _).mono ?_; rintro e w' ⟨rfl, rfl⟩)
    | (refine wpList_store_new rfl _ _ _ rfl _ _ L rfl (by rw [hL]; rfl) (by rw [h7]; rfl) hi h1 ?_)
    | fail)
  exact bodyPost_ret (results_mid1 rfl _ _ w.heap.size 0 L _ rfl (range_of_block (heap_alloc_last w _ rfl)) Tryz.underlying34 rfl hi) rfl ⟨by subst hL; rfl, (Below.refl _ w).alloc (Nat.le_refl _) _⟩
end Go.Proofs.YtnadilfobmgebaaGreatDoor
