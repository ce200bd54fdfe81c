/- A block that is cleaned is where it was, and not dirty, and no other one is touched: for every list of calls and every block. -/
import Derived.Test.YtmgcekpfnkcmjaaPlay09
import Derived.Test.YtmgcekpfnkcmjaaRows
import Derived.Deep.RegionHeld3
namespace Go.Proofs.Ytmgcekpfnkcmjaa.indexCleans
open Go Go.RowKit Go.ChangeShapes Go.WideShapes Go.ChangeAt Go.Proofs.Ytmgcekpfnkcmjaa

set_option maxRecDepth 100000 in
theorem early (v : Value) (l : List Op9) (blk : Int) (w : World) (hv : Rd w 4 v l.length (ops9 l)) (h : 80 < l.length) :
    Calls Try.prog 3 #[v, .int .i64 blk] w fun e w' => e = .returned (.bool true) ∧ Below w.heap.size w w' := by
  have hle := hv.le
  unfold maxLen at hle
  obtain ⟨ao, c, rfl⟩ := hv.nil_iff
  clear hv
  go_enter Try.func3, Try.ntmps3
  go_wp2_with fail
  refine (inew_ok 12 6 _ (by decide) (by decide) (by decide) (by decide)).mono ?_
  rintro e w1 ⟨b, v, mb, rfl, _, hb, hmb, hfv, hB1⟩
  go_wp2_with fail
  refine (awake09 _).mono ?_
  rintro e w2 ⟨rfl, hb2⟩
  go_wp2
  go_ret
  exact ⟨rfl, hB1.trans (hb2.mono hB1.size)⟩

set_option maxRecDepth 100000 in
set_option maxHeartbeats 4000000 in
theorem main (v : Value) (l : List Op9) (blk : Int) (w : World) (hv : Rd w 4 v l.length (ops9 l)) (h : l.length ≤ 80) :
    Calls Try.prog 3 #[v, .int .i64 blk] w fun e w' => e = .returned (.bool true) ∧ Below w.heap.size w w' := by
  have HV := Lib.hid hv
  obtain ⟨ao, c, rfl⟩ := hv.nil_iff
  clear hv
  go_enter Try.func3, Try.ntmps3
  go_wp2_with fail
  refine (inew_ok 12 6 _ (by decide) (by decide) (by decide) (by decide)).mono ?_
  rintro e w1 ⟨b, xv, mb, rfl, hI1, hb, hmb, hfv, hB1⟩
  have HS : Hid (∀ j, ixS xv mb j → w.heap.size ≤ j) := fun j hj => hj.elim (hfv j) (fun e => e ▸ hmb)
  have HB := Lib.hid hb
  clear hmb hfv hb
  go_wp2_with fail
  go_loopg [7] l.length (fun g i wr => ∃ (k : Nat) (ps : List (Int × Bool)), k + g = l.length ∧ i = .int .i64 k ∧ ps.length = 12 ∧ IndexAt wr b xv mb k ps 6 ∧ Below w.heap.size w wr)
  case atStart => exact ⟨0, _, by omega, rfl, by simp, hI1, hB1⟩
  case round =>
    clear hI1 hB1 w1
    obtain ⟨k, ps, hk, rfl, hpn, hI, hB⟩ := hrel
    by_cases hlt : k < l.length
    · obtain ⟨bl, off, c', hvv, hbl, p0, p1, p2, p3⟩ := op_cells HV.out hlt
      cases hvv
      have g0 := (hB.cell (p := ⟨bl, off + k * 4, none⟩) hbl).trans p0
      have g1 := (hB.cell (p := ⟨bl, off + k * 4 + 1, none⟩) hbl).trans p1
      have g2 := (hB.cell (p := ⟨bl, off + k * 4 + 2, none⟩) hbl).trans p2
      have g3 := (hB.cell (p := ⟨bl, off + k * 4 + 3, none⟩) hbl).trans p3
      have hbz := hB.size
      have HId : Hid (IndexAt wr.drew b xv mb k ps 6) := hI.keep ((Upd.refl (fun _ => False) _).drew) (fun h => h) (fun _ _ h => h)
      clear p0 p1 p2 p3 hI
      go_wp2
      go_region_held3 (fun W => W.cell? ⟨bl, off + k * 4, none⟩ = some (.int .i64 l[k].ask) ∧ W.cell? ⟨bl, off + k * 4 + 1, none⟩ = some (.int .i64 l[k].blk) ∧ W.cell? ⟨bl, off + k * 4 + 2, none⟩ = some (.int .i64 l[k].slot) ∧ W.cell? ⟨bl, off + k * 4 + 3, none⟩ = some (.bool l[k].dirty)) (go_keep)
        (first
        | ((go_at_call 16; refine (rnew_ok 12 6 _ (by decide) (by decide)).mono ?_; rintro e w2 ⟨rb, vs, vd, rfl, hr, hrb, hrs, hb2⟩; have q0 := (hb2.cell (p := ⟨bl, off + k * 4, none⟩) (Nat.lt_of_lt_of_le hbl hbz)).trans g0; have q1 := (hb2.cell (p := ⟨bl, off + k * 4 + 1, none⟩) (Nat.lt_of_lt_of_le hbl hbz)).trans g1; have q2 := (hb2.cell (p := ⟨bl, off + k * 4 + 2, none⟩) (Nat.lt_of_lt_of_le hbl hbz)).trans g2; have q3 := (hb2.cell (p := ⟨bl, off + k * 4 + 3, none⟩) (Nat.lt_of_lt_of_le hbl hbz)).trans g3))
        | ((go_at_call 15; refine (does_any (HId.out.below hb2) hr (Good.start 12 6) (by unfold maxLen; omega) (by rintro j (rfl | hj) hj2; exact absurd (hrs _ hj2) (by have := HId.out.blt; omega); exact absurd (hrs _ hj2) (by have := HId.out.slt _ hj; omega)) (fun hj => by have := HId.out.slt _ hj; omega) l[k]).mono ?_; rintro e w3 ⟨⟨bb, rfl, _⟩, hI3, hr3, hu3⟩; have hns : ¬ (ixS xv mb bl ∨ rS vs vd bl) := (fun e => e.elim (fun e => by have := HS.out _ e; omega) (fun e => by have := hrs _ e; simp at this; omega)); have hbl2 : bl < w2.heap.size := Nat.lt_of_lt_of_le (Nat.lt_of_lt_of_le hbl hbz) hb2.size; have r0 := (hu3.cellAt (o := off + k * 4) hbl2 hns).trans q0; have r1 := (hu3.cellAt (o := off + k * 4 + 1) hbl2 hns).trans q1; have r2 := (hu3.cellAt (o := off + k * 4 + 2) hbl2 hns).trans q2; have r3 := (hu3.cellAt (o := off + k * 4 + 3) hbl2 hns).trans q3)))
      have hB3 : Below w.heap.size w w3 := below_upd (hB.trans ((Below.undrew hb2).mono hB.size)) hu3 (Nat.le_refl _) (fun j hj => hj.elim (HS.out j) (fun e => by have := hrs _ e; simp at this; omega))
      have HI3 := Lib.hid hI3
      have HL : Hid ((doL ps 6 l[k]).length = 12) := by show _ = _; rw [doL_len]; exact hpn
      clear hI3 hr3 hu3 r0 r1 r2 r3 q0 q1 q2 q3 g0 g1 g2 g3 hr hrs hb2 hns hB HId
      go_wp2
      go_roundg (gk - 1)
      case measure => omega
      case rel => exact ⟨k + 1, _, by omega, by go_num, HL.out, HI3.out, hB3⟩
    · obtain rfl : k = l.length := by omega
      have hpos : 0 < ps.length := by omega
      go_wp2_with fail
      refine (icopy_any hI hpos).mono ?_
      rintro e w2 ⟨cb, cv, cm, rfl, hC2, hcb, hcs, hb2⟩
      have hI2 := hI.below hb2
      have hB2 := hB.trans (hb2.mono hB.size)
      have hbz := hB.size
      have hil := hI.slt
      have hib := hI.blt
      have HCS : Hid (∀ j, ixS cv cm j → wr.heap.size ≤ j) := hcs
      have HCB : Hid (wr.heap.size ≤ cb) := hcb
      have HIL : Hid (b < wr.heap.size ∧ ∀ j, ixS xv mb j → j < wr.heap.size) := ⟨hib, hil⟩
      have hgood := hI.good
      have HG : Hid (Good ps 6) := hgood
      clear hI hb2 hcs hil hgood
      go_wp2_with fail
      refine (clean_any hC2 blk).mono ?_
      rintro e w3 ⟨rfl, hC3, hu3⟩
      have hI3 := hI2.keep hu3 (fun e => by have := HCS.out _ e; have := HIL.out.1; omega) (fun j hj e => by have := HCS.out _ e; have := HIL.out.2 _ hj; omega)
      have hB3 := below_upd hB2 hu3 (Nat.le_refl _) (fun j e => by have := HCS.out _ e; omega)
      have HCB3 := Lib.hid hC3
      obtain ⟨cc, hcc⟩ : ∃ cc, cc = getC ps blk := ⟨_, rfl⟩
      have HCC := Lib.hid hcc
      rw [← hcc]
      obtain ⟨wb, rfl⟩ : ∃ wb : World, wb = w3 := ⟨_, rfl⟩
      clear hC2 hI2 hB2 hu3 hcc hC3
      go_wp2_with fail
      go_loopg [10] 12 (fun g i wr => ∃ k : Nat, k + g = 12 ∧ i = .int .i64 k ∧ IndexAt wr b xv mb l.length ps 6 ∧ IndexAt wr cb cv cm l.length (cleanL ps blk) 6 ∧ Below w.heap.size w wr)
      case atStart => exact ⟨0, by omega, rfl, hI3, HCB3.out, hB3⟩
      case round =>
        clear hI3 HCB3 hB3
        obtain ⟨k, hk, rfl, hI, hC, hB⟩ := hrel
        by_cases hlt : k < 12
        · have hgx := get_any hI k
          obtain ⟨c1, c2⟩ := clean_get HG.out k blk
          obtain ⟨z, hz⟩ : ∃ z, z = getV ps k := ⟨_, rfl⟩
          obtain ⟨y, hy⟩ : ∃ y, y = getC ps k := ⟨_, rfl⟩
          rw [← hz] at c2 hgx
          rw [← hy] at c1 hgx
          have HX := Lib.hid hgx
          have HGC : Hid (∀ {w : World}, IndexAt w cb cv cm l.length (cleanL ps blk) 6 → Calls Try.prog 19 #[.pointer (some ⟨cb, 0, none⟩), .int .i64 k] w fun e w' => e = .returned (.tuple #[placeV (if (k : Int) = blk then (z.1, false) else z).1 (if (k : Int) = blk then (z.1, false) else z).2, .int .i64 y]) ∧ Below w.heap.size w w') :=
            fun h => by have := get_any h k; rw [c1, c2] at this; exact this
          have HI := Lib.hid hI
          have HC := Lib.hid hC
          have hcy : Hid ((k : Int) = blk → cc = y) := fun e => by rw [HCC.out, hy, e]
          clear c1 c2 hgx hz hy hI hC
          have hbr := hB.size
          go_wp2_with fail
          refine HX.out.mono ?_
          rintro e w4 ⟨rfl, hb4⟩
          have hua : Upd (fun _ => False) wr (w4.alloc (.cells #[.int .i64 z.1, .bool z.2] 36)) := (Upd.of_below hb4).alloc _
          have hpl := heap_alloc_last w4 (.cells #[.int .i64 z.1, .bool z.2] 36) rfl
          have HPL := Lib.hid hpl
          have hC4 := HC.out.keep hua (fun h => h) (fun _ _ h => h)
          have HU4 := Lib.hid hua
          have hz4 := hb4.size
          have hgc := HGC.out hC4
          by_cases hkb : (k : Int) = blk
          · have hkb' : ((k : Int) == blk) = true := by simpa using hkb
            have hcc := hcy.out hkb
            rw [if_pos hkb] at hgc
            have HGC2 := Lib.hid hgc
            subst hcc
            clear hkb hgc hua hpl hC4 hb4 hcy HCC
            go_wp2_with fail
            refine HGC2.out.mono ?_
            rintro e w5 ⟨rfl, hb5⟩
            have hub : Upd (fun _ => False) (w4.alloc (.cells #[.int .i64 z.1, .bool z.2] 36)) (w5.alloc (.cells #[.int .i64 z.1, .bool false] 36)) := (Upd.of_below hb5).alloc _
            have hpl5 := (hub.block w4.heap.size (by simp) (fun h => h)).trans HPL.out
            have hql5 := heap_alloc_last w5 (.cells #[.int .i64 z.1, .bool false] 36) rfl
            have a0 := cell_of_block hpl5 0
            have a1 := cell_of_block hpl5 1
            have f1 := frozen_of_block hpl5 1
            simp at a0 a1
            have hus := upd_setCell (w5.alloc (.cells #[.int .i64 z.1, .bool false] 36)) w4.heap.size 1 (.bool false)
            have hz5 := hb5.size
            simp at hz5
            have hne : w5.heap.size ≠ w4.heap.size := by omega
            have s0 := (hus.cellAt (b := w5.heap.size) (o := 0) (by simp) hne).trans (cell_of_block hql5 0)
            have s1 := (hus.cellAt (b := w5.heap.size) (o := 1) (by simp) hne).trans (cell_of_block hql5 1)
            simp at s0 s1
            have HU : Hid (Upd (fun _ => False) wr ((w5.alloc (.cells #[.int .i64 z.1, .bool false] 36)).setCell ⟨w4.heap.size, 1, none⟩ (.bool false))) :=
              (HU4.out.trans hub).new (hus.mono (fun _ _ h => h)) (fun i hi e => by omega)
            clear hub hpl5 hql5 hus hb5 HGC2
            go_wp2
            go_roundg (gk - 1)
            case measure => omega
            case rel =>
              exact ⟨k + 1, by omega, by go_num, HI.out.keep HU.out (fun h => h) (fun _ _ h => h), HC.out.keep HU.out (fun h => h) (fun _ _ h => h), below_upd hB HU.out (Nat.le_refl _) (fun _ h => h.elim)⟩
          · have hkb' : ((k : Int) == blk) = false := by simpa using hkb
            rw [if_neg hkb] at hgc
            have HGC2 := Lib.hid hgc
            clear hkb hgc hua hpl hC4 hb4 hcy
            go_wp2_with fail
            refine HGC2.out.mono ?_
            rintro e w5 ⟨rfl, hb5⟩
            have hub : Upd (fun _ => False) (w4.alloc (.cells #[.int .i64 z.1, .bool z.2] 36)) (w5.alloc (.cells #[.int .i64 z.1, .bool z.2] 36)) := (Upd.of_below hb5).alloc _
            have hpl5 := (hub.block w4.heap.size (by simp) (fun h => h)).trans HPL.out
            have hql5 := heap_alloc_last w5 (.cells #[.int .i64 z.1, .bool z.2] 36) rfl
            have a0 := cell_of_block hpl5 0
            have a1 := cell_of_block hpl5 1
            have b0 := cell_of_block hql5 0
            have b1 := cell_of_block hql5 1
            simp at a0 a1 b0 b1
            have HU := Lib.hid (HU4.out.trans hub)
            clear hub hpl5 hql5 hb5 HGC2
            go_wp2
            go_roundg (gk - 1)
            case measure => omega
            case rel =>
              exact ⟨k + 1, by omega, by go_num, HI.out.keep HU.out (fun h => h) (fun _ _ h => h), HC.out.keep HU.out (fun h => h) (fun _ _ h => h), below_upd hB HU.out (Nat.le_refl _) (fun _ h => h.elim)⟩
        · obtain rfl : k = 12 := by omega
          have hcc : cc = if blk < 0 ∨ (12 : Int) ≤ blk then 10 else cc := by
            split
            · rename_i ho
              rw [HCC.out]; unfold getC; rw [if_pos (by rw [hpn]; exact ho)]
            · rfl
          clear hI hC hlt hk
          by_cases h0 : blk < 0
          · have hcx : cc = 10 := by rw [hcc, if_pos (.inl h0)]
            subst hcx
            clear hcc HCC
            go_wp2_with fail
            refine (awake09 _).mono ?_
            rintro e w6 ⟨rfl, hb6⟩
            go_wp2
            go_ret
            exact ⟨rfl, hB.trans (hb6.mono hB.size)⟩
          · by_cases h1 : (12 : Int) ≤ blk
            · have hcx : cc = 10 := by rw [hcc, if_pos (.inr h1)]
              subst hcx
              clear hcc HCC
              go_wp2_with fail
              refine (awake09 _).mono ?_
              rintro e w6 ⟨rfl, hb6⟩
              go_wp2
              go_ret
              exact ⟨rfl, hB.trans (hb6.mono hB.size)⟩
            · clear hcc HCC
              go_wp2_with fail
              refine (awake09 _).mono ?_
              rintro e w6 ⟨rfl, hb6⟩
              go_wp2
              go_ret
              exact ⟨rfl, hB.trans (hb6.mono hB.size)⟩

theorem walk (v : Value) (l : List Op9) (blk : Int) (w : World) (hv : Rd w 4 v l.length (ops9 l)) :
    Calls Try.prog 3 #[v, .int .i64 blk] w fun e w' => e = .returned (.bool true) ∧ Below w.heap.size w w' := by
  by_cases h : 80 < l.length
  · exact early v l blk w hv h
  · exact main v l blk w hv (by omega)
theorem own : ownKnob Try.prog.godebug = none := by kernel_rfl

set_option maxRecDepth 100000 in
theorem lifted (os : Os) (started : os.Started) (H : Type) (enc : TypeId × Value → H) :
    ReturnsInHanded {} Try.checked os 3 .any (Rows.indexCleansSpec.pre6 enc Try.prog Try.f3 Rows.indexCleansRow.domain false) (Rows.indexCleansSpec.post enc Try.prog Try.f3 false true false false) := by
  refine returnsInHanded_of_change (C := Try.checked) own started (by kernel_rfl) Try.func3
    (ChangeSpec.witness6 (enc := enc) (C := Try.checked) false ⟨#[], #[.slice none 0 0,.int .i64 0], []⟩ 8 (by kernel_rfl) (by kernel_rfl) (by kernel_rfl) (by kernel_rfl)) ?_
  intro W base args ds gs before hval0 hW hcnd _
  have hval : ∀ (j : Nat) t v, Try.f3.params[j]? = some t → args[j]? = some v → Value.okWide Try.prog W .any base t v := hval0
  have hW' := hW
  obtain ⟨p, q, hA0, hV, rfl, hfz, hnd⟩ := hW
  have hA : DataW.TrodAll enc Try.prog W 0 (fun _ => true) true Try.f3.params.toList args.toList ds p := hA0
  rw [Try.params3] at hA hval
  obtain ⟨v0, vs0, d0, ds0, p0, q0, hargs, rfl, rfl, h0, r0⟩ := trodAll_cons hA
  obtain ⟨v1, vs1, d1, ds1, p1, q1, rfl, rfl, rfl, h1, r1⟩ := trodAll_cons r0
  obtain ⟨rfl, rfl, rfl⟩ := trodAll_nil r1
  obtain rfl : args = #[v0, v1] := by cases args; simp_all
  obtain ⟨rfl, rfl⟩ := trodVars_none hV
  obtain ⟨l, hl, _⟩ := open_rd (fun o : Op9 => [.int .i64 o.ask, .int .i64 o.blk, .int .i64 o.slot, .bool o.dirty]) (fun _ => True) (k := 4) (fun _ => rfl) (by decide) Try.underlying22 cells_op9 opEl9 (hval 0 22 v0 rfl rfl) h0
  obtain ⟨a1, rfl, rfl, rfl, w1⟩ := open_int Try.underlying3 (hval 1 3 v1 rfl rfl) h1
  refine (walk v0 l a1 W hl).mono fun e W' ⟨he, hb⟩ => ?_
  subst he
  exact ⟨_, rfl, law_post (T := 4) (by kernel_rfl) (by kernel_rfl) rfl Try.underlying4 rfl rfl hW' hb⟩

theorem over : Rows.indexCleansRow.holds Try.pinned (OpenSpec.ofChange Rows.indexCleansSpec) :=
  OpenClaim.holds_of_wide 3 Try.f3 rfl rfl rfl rfl rfl rfl rfl ⟨rfl, rfl, rfl, rfl, rfl⟩ rfl rfl rfl rfl rfl (by kernel_rfl) Try.func3 (by kernel_rfl)
    (of_decide_eq_true (by kernel_rfl)) (by unfold Func.isWrapper; first | (rw [if_pos (by decide +kernel)]; kernel_rfl) | (rw [if_neg (by decide +kernel)]; exact ⟨rfl, rfl⟩))
    (fun os started H enc _ => lifted os started H enc)

/-- The statement. -/
theorem proved : Rows.IndexCleansSaid :=
  over
end Go.Proofs.Ytmgcekpfnkcmjaa.indexCleans
