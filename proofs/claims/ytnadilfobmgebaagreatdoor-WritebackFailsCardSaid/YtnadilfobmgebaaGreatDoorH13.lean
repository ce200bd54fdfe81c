/- The index: At, Drop. A cache's index, slots, clock and sums, call by call. A cache: clean. The clock's Evict: may, goes (with its deferred closure). The plain law of Evict: what goes, and what is left. -/
import Derived.Test.YtnadilfobmgebaaGreatDoorH12
import Derived.Test.YtnadilfobmgebaaGreatDoorH06
namespace Go.Proofs.YtnadilfobmgebaaGreatDoor
open Go Go.RowKit
set_option maxRecDepth 100000 in
set_option maxHeartbeats 1000000 in
theorem drop_bad {w : World} {b mb N : Nat} {v : Value} {ps : List (Int × Bool)} {slots : Nat} (h : IndexAt w b v mb N ps slots) (k : Int) (hc : getC ps k ≠ 0) :
    Calls Tryz.prog 233 #[.pointer (some ⟨b, 0, none⟩), .int .i64 k] w fun e w' => e = .returned (.tuple #[placeV 0 false, .int .i64 (getC ps k)]) ∧ Below w.heap.size w w' := by
  have H := Lib.hid (h.keep ((Upd.refl (fun _ => False) w).alloc (.cells #[.int .i64 0, .bool false] 108)) (fun h => h) (fun _ _ h => h))
  obtain ⟨c, hcc⟩ : ∃ c, c = getC ps k := ⟨_, rfl⟩
  obtain ⟨z, hz⟩ : ∃ z, z = getV ps k := ⟨_, rfl⟩
  have HG := get_any H.out k
  rw [← hcc, ← hz] at HG
  have HG' := Lib.hid HG
  rw [← hcc] at hc
  rw [← hcc]
  have hc' : (c == 0) = false := by simpa using hc
  clear hcc hz h H hc HG
  go_enter Tryz.func233, Tryz.ntmps233
  go_wp2_with fail
  refine HG'.out.mono ?_
  rintro e w1 ⟨rfl, hb1⟩
  have hz1 := hb1.size
  simp at hz1
  have hB := below_upd ((Below.refl _ w).alloc (Nat.le_refl _) _) (Upd.of_below (S := fun _ => False) hb1) (Nat.le_refl _) (fun _ h => h.elim)
  have hrx : (w1.alloc (.cells #[.int .i64 z.1, .bool z.2] 108)).heap[w.heap.size]? = some (.cells #[.int .i64 0, .bool false] 108) :=
    (((Upd.of_below (S := fun _ => False) hb1).alloc _).block _ (by simp) (fun h => h)).trans (heap_alloc_last w _ rfl)
  obtain ⟨r0, r1, f0, f1⟩ := res_none _ _ hrx
  have Y := Lib.hid (res_same _ _ hrx)
  clear hrx HG'
  go_wp2
  refine bodyPost_ret (v := .tuple #[placeV 0 false, .int .i64 c]) ?_ rfl ⟨rfl, res_below (hB.alloc (by omega) _) _ (by omega) _ _⟩
  simp [results, Tryz.results233, go_sem, Y.out.1, Y.out.2]
set_option maxRecDepth 100000 in
set_option maxHeartbeats 1000000 in
theorem drop_ok {w : World} {b mb N : Nat} {v : Value} {ps : List (Int × Bool)} {slots : Nat} (h : IndexAt w b v mb N ps slots) (n : Nat) (hn : n < ps.length) (h0 : 0 ≤ ps[n].1) :
    Calls Tryz.prog 233 #[.pointer (some ⟨b, 0, none⟩), .int .i64 n] w fun e w' => e = .returned (.tuple #[placeV ps[n].1 ps[n].2, .int .i64 0]) ∧
      IndexAt w' b v mb N (ps.set n (-1, false)) slots ∧ Upd (ixS v mb) w w' := by
  have hgood := h.good
  have hr := hgood.each n hn
  have hsl := h.sl1
  have hle := h.le
  have hw : Upd (fun _ => False) w (w.alloc (.cells #[.int .i64 0, .bool false] 108)) := (Upd.refl (fun _ => False) w).alloc (.cells #[.int .i64 0, .bool false] 108)
  have H := Lib.hid h
  have HG := Lib.hid (get_some (h.keep hw (fun h => h) (fun _ _ h => h)) n hn (by omega))
  clear h
  go_enter Tryz.func233, Tryz.ntmps233
  go_wp2_with fail
  refine HG.out.mono ?_
  rintro e w1 ⟨rfl, hb1⟩
  have hz1 := hb1.size
  simp at hz1
  clear HG
  have hu1 : Upd (fun _ => False) w (w1.alloc (.cells #[.int .i64 ps[n].1, .bool ps[n].2] 108)) := (hw.trans (Upd.of_below hb1 |>.mono (S' := fun _ => False) (fun _ _ h => h))).alloc _
  have hgx : (w1.alloc (.cells #[.int .i64 ps[n].1, .bool ps[n].2] 108)).heap[w1.heap.size]? = some (.cells #[.int .i64 ps[n].1, .bool ps[n].2] 108) := heap_alloc_last w1 _ rfl
  have hrx : (w1.alloc (.cells #[.int .i64 ps[n].1, .bool ps[n].2] 108)).heap[w.heap.size]? = some (.cells #[.int .i64 0, .bool false] 108) :=
    (((Upd.of_below (S := fun _ => False) hb1).alloc _).block _ (by simp) (fun h => h)).trans (heap_alloc_last w _ rfl)
  go_wp2
  generalize hw2 : (w1.alloc (.cells #[.int .i64 ps[n].1, .bool ps[n].2] 108)) = w2
  rw [hw2] at hu1 hgx hrx
  have hz2 : w2.heap.size = w1.heap.size + 1 := by rw [← hw2]; simp
  clear hw2 hb1 hw
  have hI2 := H.out.keep hu1 (fun h => h) (fun _ _ h => h)
  obtain ⟨w3, hdel, hM3, hu23', hz3⟩ := (show MapAt w2.drew mb N (atOf ps) from hI2.map).drop (x := ps[n].1) (by omega) (by rcases hr with e | e; rw [e]; decide; omega) 0
  have hu23 := hu23'.undrew
  obtain ⟨g, off, cap, rfl, hg, P0, P1⟩ := hI2.at hn
  have hbm : b ≠ mb := fun e => hI2.nm e.symm
  have hgm : g ≠ mb := fun e => hI2.nv (by rw [e]; rfl)
  have hgb : g ≠ b := fun e => hI2.ne (by rw [e]; rfl)
  have hmlt := H.out.map.lt
  have hblt := H.out.blt
  have hglt := H.out.sl.lt (g := g) rfl
  have T2 := cell_of_block hI2.str 1
  have u0 := cell_of_block hgx 0
  simp at T2 u0
  have G3 := (hu23.block _ (by omega) (by omega)).trans hgx
  have R3 := (hu23.block _ (by omega) (by omega)).trans hrx
  have T3 := (hu23.block _ hI2.blt hbm).trans hI2.str
  have S3 := hI2.sl.keep hu23 (fun g' hg' e => by simp [Value.ownBlock] at hg'; omega)
  have HM3 := Lib.hid hM3
  have HZ3 : w3.heap.size = w1.heap.size + 1 := hz3.trans hz2
  have HU3 := Lib.hid ((hu1.mono (S' := fun j => j = mb) (fun _ _ h => h.elim)).trans hu23)
  clear hu1 hgx hrx hz2 hI2 P0 P1 hu23' hu23 hM3 hg hz3
  go_wp2
  go_region
  clear hdel T2 u0
  have t0 := cell_of_block T3 0
  simp at t0
  obtain ⟨g', off', cap', cur, hve, hg3, hcs, hcc⟩ := S3.at (by omega)
  cases hve
  have HG3 := Lib.hid G3
  have HR3 := Lib.hid R3
  have HT3 := Lib.hid T3
  have HS3 := Lib.hid S3
  have E0 := (cell_of_block hg3 (off + n * 2)).trans (hcc _ _ (plC_at hn).1)
  have E1 := (cell_of_block hg3 (off + n * 2 + 1)).trans (hcc (n * 2 + 1) _ (plC_at hn).2)
  have F0 := frozen_of_block hg3 (off + n * 2)
  have F1 := frozen_of_block hg3 (off + n * 2 + 1)
  have hg3' := lt_of_block hg3
  have hb3' := lt_of_block T3
  clear G3 R3 T3 S3 hcs hcc hg3
  go_wp2
  go_region_held3 (fun W => W.cell? ⟨b, 0, none⟩ = some (.slice (some ⟨g, off, none⟩) ps.length cap)) (go_keep)
    ((go_at_call 148; refine (nowhere_ok _).mono ?_; rintro e w4 ⟨rfl, hu4, hz4⟩; have k0 := (hu4.cellAt (o := 0) (by simp; omega) (fun h => h)).trans t0; have k1 := (hu4.cellAt (by simp; omega) (fun h => h)).trans E0; have k2 := (hu4.cellAt (by simp; omega) (fun h => h)).trans E1; have k3 := (hu4.frozenAt (by simp; omega) (fun h => h)).trans F0; have k4 := (hu4.frozenAt (by simp; omega) (fun h => h)).trans F1))
  generalize hw5 : ((w4.setCell ⟨g, off + n * 2, none⟩ (.int .i64 (-1))).setCell ⟨g, off + n * 2 + 1, none⟩ (.bool false)) = w5
  have hu34 : Upd (fun _ => False) w3 w4 := hu4.undrew
  have hu45 : Upd (fun j => j = g) w4 w5 := by rw [← hw5]; exact (upd_setCell w4 g (off + n * 2) _).trans (upd_setCell _ g (off + n * 2 + 1) _)
  have S4 := HS3.out.keep hu34 (fun _ _ h => h)
  have S5 : Sl w5 108 2 (.slice (some ⟨g, off, none⟩) ps.length cap) (ps.set n (-1, false)).length (plC (ps.set n (-1, false))) := by
    rw [← hw5]; exact S4.putPlace n hn (-1) false
  have hz5 : w5.heap.size = w1.heap.size + 2 := by rw [← hw5]; simp [hz4]; simp [HZ3]
  clear hw5 k0 k1 k2 k3 k4 E0 E1 F0 F1 t0
  have hu35 := (hu34.mono (S' := fun j => j = g) (fun _ _ h => h.elim)).trans hu45
  have M5 := HM3.out.keep hu35 (fun e => hgm e.symm)
  have T5 := (hu35.block _ (by omega) (fun e => hgb e.symm)).trans HT3.out
  have G5 := (hu35.block _ (by omega) (by omega)).trans HG3.out
  have R5 := (hu35.block _ (by omega) (by omega)).trans HR3.out
  have HI5 : Hid (IndexAt w5 b (.slice (some ⟨g, off, none⟩) ps.length cap) mb N (ps.set n (-1, false)) slots) :=
    { str := T5, sl := by simpa using S5, map := by rw [hgood.atOf_drop hn]; exact M5, good := hgood.drop n, ne := H.out.ne, nm := H.out.nm, nv := H.out.nv, le := by simpa using hle, sl1 := hsl }
  have HU5 : Hid (Upd (ixS (.slice (some ⟨g, off, none⟩) ps.length cap) mb) w w5) :=
    (HU3.out.mono (fun j _ e => .inr e)).trans (hu35.mono (fun j _ e => .inl (by rw [e]; rfl)))
  have HR5 := Lib.hid R5
  have r0 := cell_of_block R5 0
  have r1 := cell_of_block R5 1
  have q0 := frozen_of_block R5 0
  have q1 := frozen_of_block R5 1
  have x0 := cell_of_block G5 0
  have x1 := cell_of_block G5 1
  simp at r0 r1 x0 x1
  clear hu34 hu45 S4 S5 hu35 M5 T5 G5 R5 hz4 hu4
  go_wp2
  have HA3 := heap_setCell_same (heap_setCell_same HR5.out 0 (.int .i64 ps[n].1)) 1 (.bool ps[n].2)
  have y0 := cell_of_block HA3 0
  have y1 := cell_of_block HA3 1
  simp at y0 y1
  have hue : Upd (fun j => j = w.heap.size) w5 ((w5.setCell ⟨w.heap.size, 0, none⟩ (.int .i64 ps[n].1)).setCell ⟨w.heap.size, 1, none⟩ (.bool ps[n].2)) := (upd_setCell w5 w.heap.size 0 _).trans (upd_setCell _ _ 1 _)
  refine bodyPost_ret (v := .tuple #[placeV ps[n].1 ps[n].2, .int .i64 0]) ?_ rfl ⟨rfl, ?_, ?_⟩
  · simp [results, Tryz.results233, go_sem, y0, y1]
  · exact HI5.out.keep hue (by omega) (fun j hj e => by have := H.out.slt j hj; omega)
  · exact HU5.out.new (hue.mono (fun _ _ h => h)) (fun j hj e => by omega)
theorem drop_any {w : World} {b mb N : Nat} {v : Value} {ps : List (Int × Bool)} {slots : Nat} (h : IndexAt w b v mb N ps slots) (k : Int) :
    Calls Tryz.prog 233 #[.pointer (some ⟨b, 0, none⟩), .int .i64 k] w fun e w' => e = .returned (.tuple #[placeV (getV ps k).1 (getV ps k).2, .int .i64 (getC ps k)]) ∧
      IndexAt w' b v mb N (dropL ps k) slots ∧ Upd (ixS v mb) w w' := by
  by_cases hc : getC ps k = 0
  · obtain ⟨n, hn, rfl, h0, h1, hv⟩ := getC_zero h.good hc
    have hL : dropL ps n = ps.set n (-1, false) := by simp [dropL, hc]
    rw [hL, hv, hc]
    exact drop_ok h n hn h0
  · have hL : dropL ps k = ps := by simp [dropL, hc]
    rw [hL, getV_bad hc]
    exact (drop_bad h k hc).mono fun e w' ⟨he, hb⟩ => ⟨he, h.below hb, Upd.of_below hb⟩
theorem putL_ln (ps : List (Int × Bool)) (slots : Nat) (k s : Int) (d : Bool) : (putL ps slots k s d).length = ps.length := by unfold putL; split <;> simp
theorem dropL_ln (ps : List (Int × Bool)) (k : Int) : (dropL ps k).length = ps.length := by unfold dropL; split <;> simp
theorem cleanL_ln (ps : List (Int × Bool)) (k : Int) : (cleanL ps k).length = ps.length := by unfold cleanL; split <;> simp
theorem turnList_ln (l : List Int) (s t : Int) : (turnList l s t).length = l.length := by unfold turnList; split <;> simp
section
variable {own : Nat → Nat} {w w' : World} {c : Nat} {n : CaN} {p : CaP} {a : CaS}
theorem ca_get (h : CaAt own w c n p a) (k : Int) :
    Calls Tryz.prog 94 #[ptr p.ix, .int .i64 k] w (CaOut own w c n p a (.tuple #[placeV (getV a.ps k).1 (getV a.ps k).2, .int .i64 (getC a.ps k)])) := by
  obtain ⟨v, mb, hi, -, -⟩ := h.ix
  exact (get_any hi k).mono fun _ _ ⟨he, hb⟩ => ⟨he, own, h.new (Upd.of_below hb), h.didNew (Upd.of_below hb)⟩
theorem ca_put (h : CaAt own w c n p a) (k s : Int) (d : Bool) (hN : a.iN < maxLen) :
    Calls Tryz.prog 191 #[ptr p.ix, .int .i64 k, placeV s d] w (CaOut own w c n p { a with iN := a.iN + 1, ps := putL a.ps n.sl k s d } (.tuple #[placeV (putV a.ps n.sl k s).1 (putV a.ps n.sl k s).2, .int .i64 (putC a.ps n.sl k s)])) := by
  obtain ⟨v, mb, hi, hb, hs⟩ := h.open5
  exact (put_any hi k s d hN).mono fun _ _ ⟨he, hi', hu⟩ =>
    have hu' := hu.mono (fun j _ hj => hs j hj)
    ⟨he, _, h.turn5 hu' ⟨v, mb, hi', hb, hs⟩ (putL_ln _ _ _ _ _), h.did5 hu'⟩
theorem ca_drop (h : CaAt own w c n p a) (k : Int) :
    Calls Tryz.prog 233 #[ptr p.ix, .int .i64 k] w (CaOut own w c n p { a with ps := dropL a.ps k } (.tuple #[placeV (getV a.ps k).1 (getV a.ps k).2, .int .i64 (getC a.ps k)])) := by
  obtain ⟨v, mb, hi, hb, hs⟩ := h.open5
  exact (drop_any hi k).mono fun _ _ ⟨he, hi', hu⟩ =>
    have hu' := hu.mono (fun j _ hj => hs j hj)
    ⟨he, _, h.turn5 hu' ⟨v, mb, hi', hb, hs⟩ (dropL_ln _ _), h.did5 hu'⟩
theorem ca_clean (h : CaAt own w c n p a) (k : Int) :
    Calls Tryz.prog 147 #[ptr p.ix, .int .i64 k] w (CaOut own w c n p { a with ps := cleanL a.ps k } (.int .i64 (getC a.ps k))) := by
  obtain ⟨v, mb, hi, hb, hs⟩ := h.open5
  exact (clean_any hi k).mono fun _ _ ⟨he, hi', hu⟩ =>
    have hu' := hu.mono (fun j _ hj => hs j hj)
    ⟨he, _, h.turn5 hu' ⟨v, mb, hi', hb, hs⟩ (cleanL_ln _ _), h.did5 hu'⟩
theorem ca_turn (h : CaAt own w c n p a) (s t : Int) :
    Calls Tryz.prog 182 #[ptr p.ss, .int .i64 s, .int .i64 t] w (CaOut own w c n p { a with st := turnList a.st s t } (.int .i64 (turnCode a.st s t))) := by
  obtain ⟨v, hi, hb, hs⟩ := h.open6
  exact (turn_any hi h.tur s t).mono fun _ _ ⟨he, hi', hu⟩ =>
    have hu' := hu.mono (fun j _ hj => hs j hj)
    ⟨he, _, h.turn6 hu' ⟨v, hi', hb, hs⟩ (turnList_ln _ _ _), h.did6 hu'⟩
theorem ca_kadd (h : CaAt own w c n p a) (k : Int) (hr : InR k) (hN : a.kN < maxLen) :
    Calls Tryz.prog 193 #[ptr p.ck, .int .i64 k] w (CaOut own w c n p { a with kN := a.kN + 1, K := addK n.sl a.K k, A := addA n.sl a.K a.A a.H k, H := addG n.sl a.K a.H k } (.int .i64 (addC n.sl a.K k))) :=
  (kadd_any h.open8 (fun _ h => .inr h) k hr hN).mono fun _ _ ⟨he, hc, hu⟩ => ⟨he, _, h.turn8 hu hc, h.did8 hu⟩
theorem ca_kdrop (h : CaAt own w c n p a) (k : Int) :
    Calls Tryz.prog 215 #[ptr p.ck, .int .i64 k] w (CaOut own w c n p { a with K := a.K.erase k, A := dropA a.K a.A k } (.int .i64 (touchC a.K k))) :=
  (kdrop_any h.open8 k).mono fun _ _ ⟨he, hc, hu⟩ => ⟨he, _, h.turn8 hu hc, h.did8 hu⟩
theorem ca_ktouch (h : CaAt own w c n p a) (k : Int) (hN : a.kN < maxLen) :
    Calls Tryz.prog 232 #[ptr p.ck, .int .i64 k] w (CaOut own w c n p { a with kN := a.kN + 1, A := agA a.A a.K k } (.int .i64 (touchC a.K k))) :=
  (ktouch_ck h.open8 k hN).mono fun _ _ ⟨he, hc, hu⟩ => ⟨he, _, h.turn8 hu hc, h.did8 hu⟩
theorem ca_sums (h : CaAt own w c n p a) {N : Nat} {f : Int → Option Nat} (hm : MapAt w' p.sm N f) (hu : Upd (fun j => j = p.sm) w w') : ∃ own', CaAt own' w' c n p { a with mN := N, sums := f } ∧ Did own own' w w' := by
  have hu' : Upd (fun j => own j = 9 ∨ w.heap.size ≤ j) w w' := hu.mono (fun j _ e => .inl (e ▸ h.sm.2))
  exact ⟨_, h.turn9 hu' ⟨hm, .inl h.sm.2⟩, h.did9 hu'⟩
theorem ca_store (h : CaAt own w c n p a) {x : Int} (h1 : -9223372036854775808 ≤ x) (h2 : x < 9223372036854775808) (y : Nat) (hy : y < 9223372036854775808) (hn : a.mN < maxLen) :
    ∃ w' own', (Instr.mapUpdate 168 (.map (some p.sm)) (.int .i64 x) (.int .i64 (y : Int))).run Tryz.prog w = .ok () w' ∧ CaAt own' w' c n p { a with mN := a.mN + 1, sums := upd1 a.sums x (some y) } ∧ Did own own' w w' := by
  obtain ⟨w', hr, hm, hu, -⟩ := h.sm.1.store h1 h2 y hy hn
  obtain ⟨own', hc, hd⟩ := ca_sums h hm hu
  exact ⟨w', own', hr, hc, hd⟩
theorem ca_del (h : CaAt own w c n p a) {x : Int} (h1 : -9223372036854775808 ≤ x) (h2 : x < 9223372036854775808) (ty : TypeId) :
    ∃ w' own', (Builtin.delete_ #[168, 3] ty #[.map (some p.sm), .int .i64 x]).run Tryz.prog w = .ok (.tuple #[]) w' ∧ CaAt own' w' c n p { a with sums := upd1 a.sums x none } ∧ Did own own' w w' := by
  obtain ⟨w', hr, hm, hu, -⟩ := h.sm.1.drop h1 h2 ty
  obtain ⟨own', hc, hd⟩ := ca_sums h hm hu
  exact ⟨w', own', hr, hc, hd⟩
end
def cleanB (ps : List (Int × Bool)) (k : Int) : Bool := getC ps k == 0 && !(getV ps k).2
set_option maxRecDepth 100000 in
theorem ca_isclean {own : Nat → Nat} {w : World} {c : Nat} {n : CaN} {p : CaP} {a : CaS} (h : CaAt own w c n p a) (k : Int) :
    Calls Tryz.prog 246 #[ptr c, .int .i64 k] w fun e w' => e = .returned (.bool (cleanB a.ps k)) ∧ Below w.heap.size w w' := by
  obtain ⟨v, mb, hi, -, -⟩ := h.ix
  obtain ⟨-, -, -, -, d4, -, -, -, -⟩ := h.cells
  have HG := Lib.hid (get_any hi k)
  clear hi h
  unfold cleanB
  generalize getV a.ps k = pv at *
  generalize getC a.ps k = cd at *
  obtain ⟨s, b⟩ := pv
  go_enter Tryz.func246, Tryz.ntmps246
  go_wp2_with fail
  refine HG.out.mono ?_
  rintro e w1 ⟨rfl, hb⟩
  have HB := Lib.hid hb
  clear hb
  by_cases hc : cd = 0
  · subst hc
    go_wp2
    go_ret
    exact ⟨by simp, HB.out.alloc HB.out.size _⟩
  · have q0 : (cd == 0) = false := by simpa using hc
    go_wp2
    go_ret
    exact ⟨by simp [q0], HB.out.alloc HB.out.size _⟩
end Go.Proofs.YtnadilfobmgebaaGreatDoor
namespace Go.Proofs.YtnadilfobmgebaaGreatDoor.EvG
open Go Go.RowKit Go.Proofs.YtnadilfobmgebaaGreatDoor
abbrev mayV (xv : Value) : Value := .func (.func 246) #[xv] #[]
def MayIs (xv : Value) (fm : Int → Bool) (w0 : World) : Prop := ∀ (W : World) (k : Int), InR k → Upd (fun _ => False) w0 W → Calls Tryz.prog 246 #[xv, .int .i64 k] W fun e w' => e = .returned (.bool (fm k)) ∧ Below W.heap.size W w'
set_option maxRecDepth 100000 in
theorem goes_any {xv : Value} {fm : Int → Bool} {w0 : World} (hmay : MayIs xv fm w0) (k : Int) (hk : InR k) (w : World) (hw : Upd (fun _ => False) w0 w) (g : Nat) (hg : w.cell? ⟨g, 0, none⟩ = some (mayV xv)) :
    Calls Tryz.prog 250 #[.int .i64 k, .pointer (some ⟨g, 0, none⟩)] w fun e w' => e = .returned (.bool (fm k)) ∧ Below w.heap.size w w' := by
  have hmf : ∀ (fn : Fn) (first cap : Array Value) (w : World), (Instr.makeFunc fn first cap).run Tryz.prog w = .ok (.func fn first cap) w := fun _ _ _ _ => rfl
  have hlt := (addr_of_cell hg).2
  have hg1 := (((Upd.refl (fun _ => False) w).alloc (.cells #[.bool false] 4)).cellAt hlt (fun h => h)).trans hg
  clear hg
  go_enter_defers Tryz.func250, Tryz.ntmps250
  go_wp2_with fail
  refine (hmay _ k hk (hw.alloc _)).mono ?_
  rintro e w1 ⟨rfl, hb1⟩
  have hs1 := hb1.size
  simp at hs1
  have blk := (hb1.block w.heap.size (by simp)).trans (heap_alloc_last w (.cells #[.bool false] 4) rfl)
  have C2 := Lib.hid (cell_of_block (heap_setCell_same blk 0 (.bool (fm k))) 0)
  have c1 := (hb1.cell (p := ⟨w.heap.size, 0, none⟩) (by simp)).trans (cell_of_block (heap_alloc_last w (.cells #[.bool false] 4) rfl) 0)
  have f1 := (hb1.frozen (p := ⟨w.heap.size, 0, none⟩) (by simp)).trans (frozen_of_block (heap_alloc_last w (.cells #[.bool false] 4) rfl) 0)
  simp at c1
  have HB : Hid (Below w.heap.size w w1) := below_upd ((Below.refl _ _).alloc (Nat.le_refl _) _) (Upd.of_below (S := fun _ => False) hb1) (Nat.le_refl _) (fun _ h => h.elim)
  clear hb1 blk
  go_wp2
  refine leaves_cons (f := 251) (args := #[.pointer (some ⟨w.heap.size, 0, none⟩)]) (by simp) (by simp [go_sem]) ?_
  refine (evict_idle _ _).mono ?_
  rintro e u' w'' ⟨rfl, rfl, rfl⟩
  simp [Leaves, settle, results, Tryz.results250, go_sem]
  have c2 := C2.out
  simp at c2
  rw [c2]
  exact ⟨_, rfl, rfl, HB.out.setCell (p := ⟨w.heap.size, 0, none⟩) (Nat.le_refl _) _⟩
def trimG (few : Nat) (L : List Int) : List Int := if few < L.length then L.tail else L
def restK (K : List Int) (i : Nat) : List Int := K.drop (i + 1) ++ K.take i
structure EvYes (fm : Int → Bool) (few : Nat) (K : List Int) (A : Int → Bool) (G : List Int) (key : Int) (K' : List Int) (A' : Int → Bool) (G' : List Int) : Prop where
  ex : ∃ i, ∃ h : i < K.length, key = K[i] ∧ K' = restK K i ∧ ((∀ x, K.head? = some x → fm x = true ∧ A x = false) → i = 0 ∧ A' = A) ∧ ((i = 0 ∧ A' = A) ∨ 1 ≤ i ∨ ∀ x ∈ K, fm x = false ∨ A x = true) ∧ ∀ j (hj : j < K.length), j < i → fm K[j] = true → A' K[j] = false
  gh : G' = trimG few (G ++ [key])
  out : A' key = false
  sub : ∀ x, A' x = true → A x = true
def evGo (fm : Int → Bool) (K : List Int) : Nat → Nat → (Int → Bool) → Option (Nat × (Int → Bool))
  | 0, _, _ => none
  | g + 1, h, A => if fm (K.getD (h % K.length) 0) = false then evGo fm K g (h + 1) A else if A (K.getD (h % K.length) 0) = true then evGo fm K g (h + 1) (updB A (K.getD (h % K.length) 0) false) else some (h % K.length, A)
def evR (fm : Int → Bool) (few : Nat) (K : List Int) (A : Int → Bool) (G : List Int) : Int × Int × List Int × (Int → Bool) × List Int :=
  match evGo fm K (2 * K.length) 0 A with
  | none => (0, 14, K, A, G)
  | some (p, A') => (K.getD p 0, 0, restK K p, A', trimG few (G ++ [K.getD p 0]))
section
variable {fm : Int → Bool} {K : List Int} {A : Int → Bool} {g h p : Nat} {k : Int} {hp : p < K.length}
theorem evGo_skip (hg : 1 ≤ g) (hk : k = K[p]) (he : p = h % K.length) (hf : fm k = false) : evGo fm K g h A = evGo fm K (g - 1) (h + 1) A := by
  obtain ⟨g, rfl⟩ : ∃ g', g = g' + 1 := ⟨g - 1, by omega⟩
  have e : K.getD (h % K.length) 0 = k := by rw [← he, hk]; simp [hp]
  simp only [evGo, e, hf, if_true, Nat.add_sub_cancel]
theorem evGo_ask (hg : 1 ≤ g) (hk : k = K[p]) (he : p = h % K.length) (hf : fm k = true) (ha : A k = true) : evGo fm K g h A = evGo fm K (g - 1) (h + 1) (updB A k false) := by
  obtain ⟨g, rfl⟩ : ∃ g', g = g' + 1 := ⟨g - 1, by omega⟩
  have e : K.getD (h % K.length) 0 = k := by rw [← he, hk]; simp [hp]
  simp only [evGo, e, hf, ha, if_true, Nat.add_sub_cancel]
  simp
theorem evGo_yes (hg : 1 ≤ g) (hk : k = K[p]) (he : p = h % K.length) (hf : fm k = true) (ha : A k = false) : evGo fm K g h A = some (p, A) := by
  obtain ⟨g, rfl⟩ : ∃ g', g = g' + 1 := ⟨g - 1, by omega⟩
  have e : K.getD (h % K.length) 0 = k := by rw [← he, hk]; simp [hp]
  simp only [evGo, e, hf, ha]
  simp [he]
end
def EvOut (fm : Int → Bool) (few : Nat) (K : List Int) (A : Int → Bool) (G : List Int) (key code : Int) (K' : List Int) (A' : Int → Bool) (G' : List Int) : Prop :=
  ((code = 14 ∧ key = 0 ∧ K' = K ∧ A' = A ∧ G' = G ∧ ∀ x ∈ K, fm x = false ∨ A x = true) ∨ (code = 0 ∧ EvYes fm few K A G key K' A' G')) ∧ evR fm few K A G = (key, code, K', A', G')
theorem restK_perm {K : List Int} {i : Nat} (h : i < K.length) : (K[i] :: restK K i).Perm K := by
  unfold restK
  have e : K = K.take i ++ K[i] :: K.drop (i + 1) := by simp
  have h1 : (K[i] :: (K.drop (i + 1) ++ K.take i)).Perm (K.take i ++ K[i] :: K.drop (i + 1)) := by
    exact List.perm_append_comm (l₁ := K[i] :: K.drop (i + 1)) (l₂ := K.take i)
  rw [← e] at h1
  exact h1
theorem restK_len {K : List Int} {i : Nat} (h : i < K.length) : (restK K i).length + 1 = K.length := by
  have := (restK_perm h).length_eq
  simpa using this
theorem trimG_len (few : Nat) (L : List Int) (h : L.length ≤ few + 1) : (trimG few L).length ≤ few := by
  unfold trimG
  split
  · rw [List.length_tail]; omega
  · omega
theorem trimG_mem {few : Nat} {L : List Int} {x : Int} (h : x ∈ trimG few L) : x ∈ L := by
  unfold trimG at h
  split at h
  · exact List.mem_of_mem_tail h
  · exact h
theorem trimG_nodup {few : Nat} {L : List Int} (h : L.Nodup) : (trimG few L).Nodup := by
  unfold trimG
  split
  · exact h.sublist (List.tail_sublist L)
  · exact h
theorem CkGood.evict {most few : Nat} {K G K' G' : List Int} {A A' : Int → Bool} {fm : Int → Bool} {key : Int} (h : CkGood most few K A G) (hy : EvYes fm few K A G key K' A' G') : CkGood most few K' A' G' := by
  obtain ⟨i, hi, rfl, rfl, _, _, _⟩ := hy.ex
  have hp := restK_perm hi
  have hnd : (K[i] :: restK K i).Nodup := hp.nodup_iff.2 h.kd
  have hmem : ∀ x, x ∈ restK K i → x ∈ K := fun x hx => hp.mem_iff.1 (List.mem_cons_of_mem _ hx)
  have hlen := restK_len hi
  have hgh := hy.gh
  subst hgh
  exact {
    kr := fun x hx => h.kr x (hmem x hx)
    gr := fun x hx => by
      rcases List.mem_append.1 (trimG_mem hx) with h1 | h1
      · exact h.gr x h1
      · simp at h1; exact h1 ▸ h.kr _ (List.getElem_mem hi)
    kd := (List.nodup_cons.1 hnd).2
    gd := trimG_nodup (by
      rw [List.nodup_append]
      refine ⟨h.gd, by simp, fun x hx y hy e => ?_⟩
      simp at hy; subst hy; subst e
      exact h.dis _ (List.getElem_mem hi) hx)
    dis := fun x hx hg => by
      rcases List.mem_append.1 (trimG_mem hg) with h1 | h1
      · exact h.dis x (hmem x hx) h1
      · simp at h1; subst h1
        exact (List.nodup_cons.1 hnd).1 hx
    ask := fun x hx => by
      have h1 := h.ask x (hy.sub x hx)
      rcases List.mem_cons.1 (hp.mem_iff.2 h1) with h2 | h2
      · subst h2; rw [hy.out] at hx; cases hx
      · exact h2
    kl := by have := h.kl; omega
    gl := trimG_len _ _ (by have := h.gl; simp; omega)
    ml := h.ml
    fl := h.fl
    m1 := h.m1 }
theorem EvOut.good {most few : Nat} {K G K' G' : List Int} {A A' : Int → Bool} {fm : Int → Bool} {key code : Int} (h : CkGood most few K A G) (ho : EvOut fm few K A G key code K' A' G') : CkGood most few K' A' G' := by
  rcases ho with ⟨⟨_, _, rfl, rfl, rfl, _⟩ | ⟨_, hy⟩, -⟩
  · exact h
  · exact CkGood.evict h hy
end Go.Proofs.YtnadilfobmgebaaGreatDoor.EvG
