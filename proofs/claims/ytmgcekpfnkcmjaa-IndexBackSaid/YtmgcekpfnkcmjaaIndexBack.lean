/- Put of what Put answered undoes it, and Drop, if the block was nowhere; nothing is turned by a call with an error: for every list of calls, any other call. -/
import Derived.Test.YtmgcekpfnkcmjaaPlay09
import Derived.Test.YtmgcekpfnkcmjaaBack09
import Derived.Test.YtmgcekpfnkcmjaaOpen09
import Derived.Test.YtmgcekpfnkcmjaaRows
import Derived.Deep.RegionHeld3
namespace Go.Proofs.Ytmgcekpfnkcmjaa.indexBack
open Go Go.RowKit Go.ChangeShapes Go.WideShapes Go.ChangeAt Go.Proofs.Ytmgcekpfnkcmjaa

set_option maxRecDepth 100000 in
theorem early (v : Value) (l : List Op9) (o : Op9) (w : World) (hv : Rd w 4 v l.length (ops9 l)) (h : 80 < l.length) :
    Calls Try.prog 7 #[v, op9V o] w fun e w' => e = .returned (.bool true) ∧ Below w.heap.size w w' := by
  have hle := hv.le
  unfold maxLen at hle
  obtain ⟨ao, c, rfl⟩ := hv.nil_iff
  clear hv
  go_enter Try.func7, Try.ntmps7
  go_wp2_with fail
  refine (inew_ok 12 6 _ (by decide) (by decide) (by decide) (by decide)).mono ?_
  rintro e w1 ⟨b, v, mb, rfl, _, hb, hmb, hfv, hB1⟩
  go_wp2_with fail
  refine (awake09 _).mono ?_
  rintro e w2 ⟨rfl, hb2⟩
  go_wp2
  go_ret
  have hB0 := (Below.refl _ w).alloc (Nat.le_refl _) (.cells #[.int .i64 o.ask, .int .i64 o.blk, .int .i64 o.slot, .bool o.dirty] 32)
  have hBB := hB0.trans (hB1.mono hB0.size)
  exact ⟨rfl, hBB.trans (hb2.mono hBB.size)⟩

set_option maxRecDepth 100000 in
set_option maxHeartbeats 4000000 in
theorem main (v : Value) (l : List Op9) (o : Op9) (wo : World) (hv : Rd wo 4 v l.length (ops9 l)) (h : l.length ≤ 80) :
    Calls Try.prog 7 #[v, op9V o] wo fun e w' => e = .returned (.bool true) ∧ Below wo.heap.size wo w' := by
  obtain ⟨ask, blk, slot, dd⟩ := o
  have hu0 : Upd (fun _ => False) wo (wo.alloc (.cells #[.int .i64 ask, .int .i64 blk, .int .i64 slot, .bool dd] 32)) := (Upd.refl _ _).alloc _
  have hv0 := hv.keep hu0 (fun _ _ h => h)
  have hbx := cells4 wo ⟨ask, blk, slot, dd⟩
  have hBo := (Below.refl _ wo).alloc (Nat.le_refl _) (.cells #[.int .i64 ask, .int .i64 blk, .int .i64 slot, .bool dd] 32)
  have hwz : wo.heap.size < (wo.alloc (.cells #[.int .i64 ask, .int .i64 blk, .int .i64 slot, .bool dd] 32)).heap.size := by simp
  obtain ⟨ao, c, rfl⟩ := hv.nil_iff
  clear hv hu0
  go_enter Try.func7, Try.ntmps7
  go_wp2_with fail
  generalize (wo.alloc (.cells #[.int .i64 ask, .int .i64 blk, .int .i64 slot, .bool dd] 32)) = w at *
  have HV := Lib.hid hv0
  have HBX := Lib.hid hbx
  clear hv0 hbx
  refine (inew_ok 12 6 _ (by decide) (by decide) (by decide) (by decide)).mono ?_
  rintro e w1 ⟨b, xv, mb, rfl, hI1, hb, hmb, hfv, hB1⟩
  have HS : Hid (∀ j, ixS xv mb j → w.heap.size ≤ j) := fun j hj => hj.elim (hfv j) (fun e => e ▸ hmb)
  have HB := Lib.hid hb
  clear hmb hfv hb
  go_wp2_with fail
  go_loopg [7] l.length (fun g i wr => ∃ (k : Nat) (ps : List (Int × Bool)), k + g = l.length ∧ i = .int .i64 k ∧ ps.length = 12 ∧ IndexAt wr b xv mb k ps 6 ∧ Below w.heap.size w wr)
  case atStart => exact ⟨0, _, by omega, rfl, by simp, hI1, hB1⟩
  case round =>
    clear hI1 hB1 w1
    obtain ⟨k, ps, hk, rfl, hpn, hI, hB⟩ := hrel
    by_cases hlt : k < l.length
    · obtain ⟨bl, off, c', hvv, hbl, p0, p1, p2, p3⟩ := op_cells HV.out hlt
      cases hvv
      have g0 := (hB.cell (p := ⟨bl, off + k * 4, none⟩) hbl).trans p0
      have g1 := (hB.cell (p := ⟨bl, off + k * 4 + 1, none⟩) hbl).trans p1
      have g2 := (hB.cell (p := ⟨bl, off + k * 4 + 2, none⟩) hbl).trans p2
      have g3 := (hB.cell (p := ⟨bl, off + k * 4 + 3, none⟩) hbl).trans p3
      have hbz := hB.size
      have HId : Hid (IndexAt wr.drew b xv mb k ps 6) := hI.keep ((Upd.refl (fun _ => False) _).drew) (fun h => h) (fun _ _ h => h)
      clear p0 p1 p2 p3 hI
      go_wp2
      go_region_held3 (fun W => W.cell? ⟨bl, off + k * 4, none⟩ = some (.int .i64 l[k].ask) ∧ W.cell? ⟨bl, off + k * 4 + 1, none⟩ = some (.int .i64 l[k].blk) ∧ W.cell? ⟨bl, off + k * 4 + 2, none⟩ = some (.int .i64 l[k].slot) ∧ W.cell? ⟨bl, off + k * 4 + 3, none⟩ = some (.bool l[k].dirty)) (go_keep)
        (first
        | ((go_at_call 16; refine (rnew_ok 12 6 _ (by decide) (by decide)).mono ?_; rintro e w2 ⟨rb, vs, vd, rfl, hr, hrb, hrs, hb2⟩; have q0 := (hb2.cell (p := ⟨bl, off + k * 4, none⟩) (Nat.lt_of_lt_of_le hbl hbz)).trans g0; have q1 := (hb2.cell (p := ⟨bl, off + k * 4 + 1, none⟩) (Nat.lt_of_lt_of_le hbl hbz)).trans g1; have q2 := (hb2.cell (p := ⟨bl, off + k * 4 + 2, none⟩) (Nat.lt_of_lt_of_le hbl hbz)).trans g2; have q3 := (hb2.cell (p := ⟨bl, off + k * 4 + 3, none⟩) (Nat.lt_of_lt_of_le hbl hbz)).trans g3))
        | ((go_at_call 15; refine (does_any (HId.out.below hb2) hr (Good.start 12 6) (by unfold maxLen; omega) (by rintro j (rfl | hj) hj2; exact absurd (hrs _ hj2) (by have := HId.out.blt; omega); exact absurd (hrs _ hj2) (by have := HId.out.slt _ hj; omega)) (fun hj => by have := HId.out.slt _ hj; omega) l[k]).mono ?_; rintro e w3 ⟨⟨bb, rfl, _⟩, hI3, hr3, hu3⟩; have hns : ¬ (ixS xv mb bl ∨ rS vs vd bl) := (fun e => e.elim (fun e => by have := HS.out _ e; omega) (fun e => by have := hrs _ e; simp at this; omega)); have hbl2 : bl < w2.heap.size := Nat.lt_of_lt_of_le (Nat.lt_of_lt_of_le hbl hbz) hb2.size; have r0 := (hu3.cellAt (o := off + k * 4) hbl2 hns).trans q0; have r1 := (hu3.cellAt (o := off + k * 4 + 1) hbl2 hns).trans q1; have r2 := (hu3.cellAt (o := off + k * 4 + 2) hbl2 hns).trans q2; have r3 := (hu3.cellAt (o := off + k * 4 + 3) hbl2 hns).trans q3)))
      have hB3 : Below w.heap.size w w3 := below_upd (hB.trans ((Below.undrew hb2).mono hB.size)) hu3 (Nat.le_refl _) (fun j hj => hj.elim (HS.out j) (fun e => by have := hrs _ e; simp at this; omega))
      have HI3 := Lib.hid hI3
      have HL : Hid ((doL ps 6 l[k]).length = 12) := by show _ = _; rw [doL_len]; exact hpn
      clear hI3 hr3 hu3 r0 r1 r2 r3 q0 q1 q2 q3 g0 g1 g2 g3 hr hrs hb2 hns hB HId
      go_wp2
      go_roundg (gk - 1)
      case measure => omega
      case rel => exact ⟨k + 1, _, by omega, by go_num, HL.out, HI3.out, hB3⟩
    · obtain rfl : k = l.length := by omega
      have hpos : 0 < ps.length := by omega
      have hgood := hI.good
      have HG : Hid (Good ps 6) := hgood
      go_wp2_with fail
      refine (icopy_any hI hpos).mono ?_
      rintro e w2 ⟨cb, cv, cm, rfl, hC2, hcb, hcs, hb2⟩
      have hI2 := hI.below hb2
      have hB2 := hB.trans (hb2.mono hB.size)
      have hbz := hB.size
      have hil := hI.slt
      have hib := hI.blt
      have HCS : Hid (∀ j, ixS cv cm j → wr.heap.size ≤ j) := hcs
      have HIL : Hid (b < wr.heap.size ∧ ∀ j, ixS xv mb j → j < wr.heap.size) := ⟨hib, hil⟩
      have hbx2 := (hB2.block _ hwz).trans HBX.out
      have c1 := cell_of_block hbx2 1
      have c2 := cell_of_block hbx2 2
      have c3 := cell_of_block hbx2 3
      simp at c1 c2 c3
      have hbx2' := hbx2
      have hP := put_any hC2 blk slot dd (by unfold maxLen; omega)
      have HI2 := Lib.hid hI2
      clear hI hb2 hcs hil hgood hbx2 hI2 hC2
      by_cases hput : putC ps 6 blk slot = 0
      · obtain ⟨n, hn, rfl, hs0, hs1, hm⟩ := putC_zero hput
        have hL : putL ps 6 n slot dd = ps.set n (slot, dd) := by simp [putL, hput]
        have hV : putV ps 6 n slot = ps[n] := by unfold putV; rw [if_pos hput, Int.toNat_natCast, getD_at hn]
        rw [hL, hV, hput] at hP
        obtain ⟨hg1, hg2⟩ := get_put hn hs0 dd
        have hgc : Hid (∀ {w : World} {N : Nat}, IndexAt w cb cv cm N (ps.set n (slot, dd)) 6 → Calls Try.prog 19 #[.pointer (some ⟨cb, 0, none⟩), .int .i64 n] w fun e w' => e = .returned (.tuple #[placeV slot dd, .int .i64 0]) ∧ Below w.heap.size w w') := fun h => by
          have := get_any h n
          rw [hg1, hg2] at this
          exact this
        have hback : Hid ((ps[n].1 = -1 ∧ ∀ {w : World} {N : Nat}, IndexAt w cb cv cm N (ps.set n (slot, dd)) 6 → Calls Try.prog 27 #[.pointer (some ⟨cb, 0, none⟩), .int .i64 n] w fun e w' => e = .returned (.tuple #[placeV slot dd, .int .i64 0]) ∧ IndexAt w' cb cv cm N ps 6 ∧ Upd (ixS cv cm) w w') ∨
            (0 ≤ ps[n].1 ∧ ∀ {w : World} {N : Nat}, IndexAt w cb cv cm N (ps.set n (slot, dd)) 6 → N < maxLen → Calls Try.prog 26 #[.pointer (some ⟨cb, 0, none⟩), .int .i64 n, placeV ps[n].1 ps[n].2] w fun e w' => (∃ y : Int × Bool, e = .returned (.tuple #[placeV y.1 y.2, .int .i64 0])) ∧ IndexAt w' cb cv cm (N + 1) ps 6 ∧ Upd (ixS cv cm) w w')) := by
          rcases HG.out.each n hn with e | ⟨e, _⟩
          · left
            refine ⟨by rw [e], fun h => ?_⟩
            have := drop_any h n
            rw [hg1, hg2, drop_put hn hs0 dd e] at this
            exact this
          · right
            refine ⟨e, fun h hN => ?_⟩
            have := put_any h n ps[n].1 ps[n].2 hN
            rw [putC_back HG.out hn hs0 hs1 hm dd e, put_back HG.out hn hs0 hs1 hm dd e] at this
            exact this.mono fun e w' ⟨h1, h2⟩ => ⟨⟨_, h1⟩, h2⟩
        generalize hz : ps[n] = z at hP hback
        have HP := Lib.hid hP
        have HBX2 := Lib.hid hbx2'
        clear hP hL hV hput hg1 hg2 hz
        go_wp2_with fail
        refine HP.out.mono ?_
        rintro e w3 ⟨rfl, hC3, hu3⟩
        have hus := (Upd.refl (fun _ => False) w3).alloc (.cells #[.int .i64 z.1, .bool z.2] 36)
        have hu3' := hu3.trans (hus.mono (S' := ixS cv cm) (fun _ _ h => h.elim))
        have hI4 := HI2.out.keep hu3' (fun e => by have := HCS.out _ e; have := HIL.out.1; omega) (fun j hj e => by have := HCS.out _ e; have := HIL.out.2 _ hj; omega)
        have hC4 := hC3.keep hus (fun h => h) (fun _ _ h => h)
        have hB4 := below_upd hB2 hu3' (Nat.le_refl _) (fun j e => by have := HCS.out _ e; omega)
        have hbx4 := (hu3'.block _ (lt_of_block HBX2.out) (fun e => by have := HCS.out _ e; omega)).trans HBX2.out
        have hz9 := heap_alloc_last w3 (.cells #[.int .i64 z.1, .bool z.2] 36) rfl
        have H4 := Lib.hid (And.intro hI4 (And.intro hB4 (And.intro hbx4 hz9)))
        have HGC := Lib.hid (hgc.out hC4)
        have HC4 := Lib.hid hC4
        have d1 := cell_of_block hbx4 1
        simp at d1
        have hz3 := hu3.size
        clear hC3 hu3 hu3' hus hI4 hB4 hbx4 hz9 hC4 c1 c2 c3
        go_wp2_with fail
        refine HGC.out.mono ?_
        rintro e w5 ⟨rfl, hb5⟩
        have hua : Upd (fun _ => False) (w3.alloc (.cells #[.int .i64 z.1, .bool z.2] 36)) (w5.alloc (.cells #[.int .i64 slot, .bool dd] 36)) := (Upd.of_below hb5).alloc _
        have hI6 := H4.out.1.keep hua (fun h => h) (fun _ _ h => h)
        have hC6 := HC4.out.keep hua (fun h => h) (fun _ _ h => h)
        have hB6 := below_upd H4.out.2.1 hua (Nat.le_refl _) (fun _ h => h.elim)
        have hbx6 := (hua.block _ (lt_of_block H4.out.2.2.1) (fun h => h)).trans H4.out.2.2.1
        have hz6 := (hua.block _ (by simp) (fun h => h)).trans H4.out.2.2.2
        have d1 := cell_of_block hbx6 1
        have d2 := cell_of_block hbx6 2
        have d3 := cell_of_block hbx6 3
        have y0 := cell_of_block hz6 0
        have y1 := cell_of_block hz6 1
        simp at d1 d2 d3 y0 y1
        have H6 := Lib.hid (And.intro hI6 (And.intro hC6 hB6))
        clear hb5 hua hI6 hC6 hB6 hbx6 hz6 H4 HC4 HGC
        obtain ⟨hq, hdr⟩ | ⟨hq, hpt⟩ := hback.out
        · have hqb : (z.1 == -1) = true := by simpa using hq
          have HD := Lib.hid (hdr H6.out.2.1)
          clear hdr hback hq
          go_wp2_with fail
          refine HD.out.mono ?_
          rintro e w7 ⟨rfl, hC7, hu7⟩
          have hI7 := H6.out.1.keep hu7 (fun e => by have := HCS.out _ e; have := HIL.out.1; omega) (fun j hj e => by have := HCS.out _ e; have := HIL.out.2 _ hj; omega)
          have hB7 := below_upd H6.out.2.2 hu7 (Nat.le_refl _) (fun j e => by have := HCS.out _ e; omega)
          have H4 := Lib.hid (And.intro hI7 (And.intro hC7 hB7))
          clear hI7 hC7 hB7 hu7 HD H6 d1 d2 d3 y0 y1
          go_wp2_with fail
          go_loopg [14] 12 (fun g i wr => ∃ k : Nat, k + g = 12 ∧ i = .int .i64 k ∧ IndexAt wr b xv mb l.length ps 6 ∧ IndexAt wr cb cv cm (l.length + 1) ps 6 ∧ Below w.heap.size w wr)
          case atStart => exact ⟨0, by omega, rfl, H4.out.1, H4.out.2.1, H4.out.2.2⟩
          case round =>
            clear H4
            obtain ⟨k, hk, rfl, hI, hC, hB⟩ := hrel
            by_cases hlt : k < 12
            · have hgx := get_any hI k
              have hgc : ∀ {w : World}, IndexAt w cb cv cm (l.length + 1) ps 6 → Calls Try.prog 19 #[.pointer (some ⟨cb, 0, none⟩), .int .i64 k] w fun e w' => e = .returned (.tuple #[placeV (getV ps k).1 (getV ps k).2, .int .i64 (getC ps k)]) ∧ Below w.heap.size w w' := fun h => get_any h k
              have HI := Lib.hid hI
              have HC := Lib.hid hC
              generalize getV ps k = z at hgx hgc
              generalize getC ps k = y at hgx hgc
              have HX := Lib.hid hgx
              have HGC : Hid (∀ {w : World}, IndexAt w cb cv cm (l.length + 1) ps 6 → Calls Try.prog 19 #[.pointer (some ⟨cb, 0, none⟩), .int .i64 k] w fun e w' => e = .returned (.tuple #[placeV z.1 z.2, .int .i64 y]) ∧ Below w.heap.size w w') := hgc
              clear hgx hgc hI hC
              go_wp2_with fail
              refine HX.out.mono ?_
              rintro e w6 ⟨rfl, hb6⟩
              have hua : Upd (fun _ => False) wr (w6.alloc (.cells #[.int .i64 z.1, .bool z.2] 36)) := (Upd.of_below hb6).alloc _
              have hpl := heap_alloc_last w6 (.cells #[.int .i64 z.1, .bool z.2] 36) rfl
              have HGC2 := Lib.hid (HGC.out (HC.out.keep hua (fun h => h) (fun _ _ h => h)))
              have HU6 := Lib.hid hua
              have HPL := Lib.hid hpl
              clear hua hpl hb6 HGC HX
              go_wp2_with fail
              refine HGC2.out.mono ?_
              rintro e w7 ⟨rfl, hb7⟩
              have hub : Upd (fun _ => False) (w6.alloc (.cells #[.int .i64 z.1, .bool z.2] 36)) (w7.alloc (.cells #[.int .i64 z.1, .bool z.2] 36)) := (Upd.of_below hb7).alloc _
              have hpl7 := (hub.block w6.heap.size (by simp) (fun h => h)).trans HPL.out
              have a0 := cell_of_block hpl7 0
              have a1 := cell_of_block hpl7 1
              simp at a0 a1
              have HU := Lib.hid (HU6.out.trans hub)
              clear hub hpl7 hb7 HGC2
              go_wp2
              go_roundg (gk - 1)
              case measure => omega
              case rel =>
                exact ⟨k + 1, by omega, by go_num, HI.out.keep HU.out (fun h => h) (fun _ _ h => h), HC.out.keep HU.out (fun h => h) (fun _ _ h => h), below_upd hB HU.out (Nat.le_refl _) (fun _ h => h.elim)⟩
            · have HI := Lib.hid hI
              have HC := Lib.hid hC
              clear hI hC
              generalize hn1 : (vis (spanL ps 0 4096) 0).length = n1
              generalize hn2 : cntD (vis (spanL ps 0 4096) 0) = n2
              have L1 : Hid (∀ {w : World}, IndexAt w cb cv cm (l.length + 1) ps 6 → Calls Try.prog 24 #[.pointer (some ⟨cb, 0, none⟩)] w fun e w' => e = .returned (.int .i64 n1) ∧ Below w.heap.size w w') := fun h => by have := len_any h hpos; rw [hn1] at this; exact this
              have L2 : Hid (∀ {w : World}, IndexAt w b xv mb l.length ps 6 → Calls Try.prog 24 #[.pointer (some ⟨b, 0, none⟩)] w fun e w' => e = .returned (.int .i64 n1) ∧ Below w.heap.size w w') := fun h => by have := len_any h hpos; rw [hn1] at this; exact this
              have D1 : Hid (∀ {w : World}, IndexAt w cb cv cm (l.length + 1) ps 6 → Calls Try.prog 25 #[.pointer (some ⟨cb, 0, none⟩)] w fun e w' => e = .returned (.int .i64 n2) ∧ Below w.heap.size w w') := fun h => by have := dirty_any h hpos; rw [hn2] at this; exact this
              have D2 : Hid (∀ {w : World}, IndexAt w b xv mb l.length ps 6 → Calls Try.prog 25 #[.pointer (some ⟨b, 0, none⟩)] w fun e w' => e = .returned (.int .i64 n2) ∧ Below w.heap.size w w') := fun h => by have := dirty_any h hpos; rw [hn2] at this; exact this
              clear hn1 hn2
              go_wp2_with fail
              refine (L1.out HC.out).mono ?_
              rintro e w6 ⟨rfl, hb6⟩
              have hB6 := hB.trans (hb6.mono hB.size)
              have hI6 := HI.out.below hb6
              have hC6 := HC.out.below hb6
              clear hb6 HI HC hB
              go_wp2_with fail
              refine (L2.out hI6).mono ?_
              rintro e w7 ⟨rfl, hb7⟩
              have hB7 := hB6.trans (hb7.mono hB6.size)
              have hI7 := hI6.below hb7
              have hC7 := hC6.below hb7
              clear hb7 hI6 hC6
              go_wp2_with fail
              refine (D1.out hC7).mono ?_
              rintro e w8 ⟨rfl, hb8⟩
              have hB8 := hB7.trans (hb8.mono hB7.size)
              have hI8 := hI7.below hb8
              clear hb8 hI7 hC7
              go_wp2_with fail
              refine (D2.out hI8).mono ?_
              rintro e w9 ⟨rfl, hb9⟩
              have hB9 := hB8.trans (hb9.mono hB8.size)
              clear hb9 hI8
              go_wp2_with fail
              refine (awake09 _).mono ?_
              rintro e w10 ⟨rfl, hb10⟩
              go_wp2
              go_ret
              have hBB := hBo.trans (hB9.mono (Nat.le_of_lt hwz))
              exact ⟨rfl, hBB.trans (hb10.mono hBB.size)⟩
        · have hqb : (z.1 == -1) = false := by simp; omega
          have HD := Lib.hid (hpt H6.out.2.1 (by unfold maxLen; omega))
          clear hpt hback hq
          go_wp2_with fail
          refine HD.out.mono ?_
          rintro e w7 ⟨⟨yy, rfl⟩, hC7, hu7⟩
          have hI7 := H6.out.1.keep hu7 (fun e => by have := HCS.out _ e; have := HIL.out.1; omega) (fun j hj e => by have := HCS.out _ e; have := HIL.out.2 _ hj; omega)
          have hB7 := below_upd H6.out.2.2 hu7 (Nat.le_refl _) (fun j e => by have := HCS.out _ e; omega)
          have H4 := Lib.hid (And.intro hI7 (And.intro hC7 hB7))
          clear hI7 hC7 hB7 hu7 HD H6 d1 d2 d3 y0 y1
          go_wp2_with fail
          go_loopg [14] 12 (fun g i wr => ∃ k : Nat, k + g = 12 ∧ i = .int .i64 k ∧ IndexAt wr b xv mb l.length ps 6 ∧ IndexAt wr cb cv cm (l.length + 1 + 1) ps 6 ∧ Below w.heap.size w wr)
          case atStart => exact ⟨0, by omega, rfl, H4.out.1, H4.out.2.1, H4.out.2.2⟩
          case round =>
            clear H4
            obtain ⟨k, hk, rfl, hI, hC, hB⟩ := hrel
            by_cases hlt : k < 12
            · have hgx := get_any hI k
              have hgc : ∀ {w : World}, IndexAt w cb cv cm (l.length + 1 + 1) ps 6 → Calls Try.prog 19 #[.pointer (some ⟨cb, 0, none⟩), .int .i64 k] w fun e w' => e = .returned (.tuple #[placeV (getV ps k).1 (getV ps k).2, .int .i64 (getC ps k)]) ∧ Below w.heap.size w w' := fun h => get_any h k
              have HI := Lib.hid hI
              have HC := Lib.hid hC
              generalize getV ps k = z at hgx hgc
              generalize getC ps k = y at hgx hgc
              have HX := Lib.hid hgx
              have HGC : Hid (∀ {w : World}, IndexAt w cb cv cm (l.length + 1 + 1) ps 6 → Calls Try.prog 19 #[.pointer (some ⟨cb, 0, none⟩), .int .i64 k] w fun e w' => e = .returned (.tuple #[placeV z.1 z.2, .int .i64 y]) ∧ Below w.heap.size w w') := hgc
              clear hgx hgc hI hC
              go_wp2_with fail
              refine HX.out.mono ?_
              rintro e w6 ⟨rfl, hb6⟩
              have hua : Upd (fun _ => False) wr (w6.alloc (.cells #[.int .i64 z.1, .bool z.2] 36)) := (Upd.of_below hb6).alloc _
              have hpl := heap_alloc_last w6 (.cells #[.int .i64 z.1, .bool z.2] 36) rfl
              have HGC2 := Lib.hid (HGC.out (HC.out.keep hua (fun h => h) (fun _ _ h => h)))
              have HU6 := Lib.hid hua
              have HPL := Lib.hid hpl
              clear hua hpl hb6 HGC HX
              go_wp2_with fail
              refine HGC2.out.mono ?_
              rintro e w7 ⟨rfl, hb7⟩
              have hub : Upd (fun _ => False) (w6.alloc (.cells #[.int .i64 z.1, .bool z.2] 36)) (w7.alloc (.cells #[.int .i64 z.1, .bool z.2] 36)) := (Upd.of_below hb7).alloc _
              have hpl7 := (hub.block w6.heap.size (by simp) (fun h => h)).trans HPL.out
              have a0 := cell_of_block hpl7 0
              have a1 := cell_of_block hpl7 1
              simp at a0 a1
              have HU := Lib.hid (HU6.out.trans hub)
              clear hub hpl7 hb7 HGC2
              go_wp2
              go_roundg (gk - 1)
              case measure => omega
              case rel =>
                exact ⟨k + 1, by omega, by go_num, HI.out.keep HU.out (fun h => h) (fun _ _ h => h), HC.out.keep HU.out (fun h => h) (fun _ _ h => h), below_upd hB HU.out (Nat.le_refl _) (fun _ h => h.elim)⟩
            · have HI := Lib.hid hI
              have HC := Lib.hid hC
              clear hI hC
              generalize hn1 : (vis (spanL ps 0 4096) 0).length = n1
              generalize hn2 : cntD (vis (spanL ps 0 4096) 0) = n2
              have L1 : Hid (∀ {w : World}, IndexAt w cb cv cm (l.length + 1 + 1) ps 6 → Calls Try.prog 24 #[.pointer (some ⟨cb, 0, none⟩)] w fun e w' => e = .returned (.int .i64 n1) ∧ Below w.heap.size w w') := fun h => by have := len_any h hpos; rw [hn1] at this; exact this
              have L2 : Hid (∀ {w : World}, IndexAt w b xv mb l.length ps 6 → Calls Try.prog 24 #[.pointer (some ⟨b, 0, none⟩)] w fun e w' => e = .returned (.int .i64 n1) ∧ Below w.heap.size w w') := fun h => by have := len_any h hpos; rw [hn1] at this; exact this
              have D1 : Hid (∀ {w : World}, IndexAt w cb cv cm (l.length + 1 + 1) ps 6 → Calls Try.prog 25 #[.pointer (some ⟨cb, 0, none⟩)] w fun e w' => e = .returned (.int .i64 n2) ∧ Below w.heap.size w w') := fun h => by have := dirty_any h hpos; rw [hn2] at this; exact this
              have D2 : Hid (∀ {w : World}, IndexAt w b xv mb l.length ps 6 → Calls Try.prog 25 #[.pointer (some ⟨b, 0, none⟩)] w fun e w' => e = .returned (.int .i64 n2) ∧ Below w.heap.size w w') := fun h => by have := dirty_any h hpos; rw [hn2] at this; exact this
              clear hn1 hn2
              go_wp2_with fail
              refine (L1.out HC.out).mono ?_
              rintro e w6 ⟨rfl, hb6⟩
              have hB6 := hB.trans (hb6.mono hB.size)
              have hI6 := HI.out.below hb6
              have hC6 := HC.out.below hb6
              clear hb6 HI HC hB
              go_wp2_with fail
              refine (L2.out hI6).mono ?_
              rintro e w7 ⟨rfl, hb7⟩
              have hB7 := hB6.trans (hb7.mono hB6.size)
              have hI7 := hI6.below hb7
              have hC7 := hC6.below hb7
              clear hb7 hI6 hC6
              go_wp2_with fail
              refine (D1.out hC7).mono ?_
              rintro e w8 ⟨rfl, hb8⟩
              have hB8 := hB7.trans (hb8.mono hB7.size)
              have hI8 := hI7.below hb8
              clear hb8 hI7 hC7
              go_wp2_with fail
              refine (D2.out hI8).mono ?_
              rintro e w9 ⟨rfl, hb9⟩
              have hB9 := hB8.trans (hb9.mono hB8.size)
              clear hb9 hI8
              go_wp2_with fail
              refine (awake09 _).mono ?_
              rintro e w10 ⟨rfl, hb10⟩
              go_wp2
              go_ret
              have hBB := hBo.trans (hB9.mono (Nat.le_of_lt hwz))
              exact ⟨rfl, hBB.trans (hb10.mono hBB.size)⟩
      · have hL : putL ps 6 blk slot dd = ps := by simp [putL, hput]
        obtain ⟨f, hf⟩ : ∃ f, f = putC ps 6 blk slot := ⟨_, rfl⟩
        rw [hL, ← hf] at hP
        rw [← hf] at hput
        have hfb : (f == 0) = false := by simpa using hput
        generalize putV ps 6 blk slot = z at hP
        have HP := Lib.hid hP
        clear hP hL hput hf
        go_wp2_with fail
        refine HP.out.mono ?_
        rintro e w3 ⟨rfl, hC3, hu3⟩
        have hus := (Upd.refl (fun _ => False) w3).alloc (.cells #[.int .i64 z.1, .bool z.2] 36)
        have hI4 := (HI2.out.keep hu3 (fun e => by have := HCS.out _ e; have := HIL.out.1; omega) (fun j hj e => by have := HCS.out _ e; have := HIL.out.2 _ hj; omega)).keep hus (fun h => h) (fun _ _ h => h)
        have hC4 := hC3.keep hus (fun h => h) (fun _ _ h => h)
        have hB4 := below_upd (below_upd hB2 hu3 (Nat.le_refl _) (fun j e => by have := HCS.out _ e; omega)) hus (Nat.le_refl _) (fun _ h => h.elim)
        have H4 := Lib.hid (And.intro hI4 (And.intro hC4 hB4))
        clear hC3 hu3 hus hI4 hC4 hB4 c1 c2 c3
        go_wp2_with fail
        go_loopg [14] 12 (fun g i wr => ∃ k : Nat, k + g = 12 ∧ i = .int .i64 k ∧ IndexAt wr b xv mb l.length ps 6 ∧ IndexAt wr cb cv cm (l.length + 1) ps 6 ∧ Below w.heap.size w wr)
        case atStart => exact ⟨0, by omega, rfl, H4.out.1, H4.out.2.1, H4.out.2.2⟩
        case round =>
          clear H4
          obtain ⟨k, hk, rfl, hI, hC, hB⟩ := hrel
          by_cases hlt : k < 12
          · have hgx := get_any hI k
            have hgc : ∀ {w : World}, IndexAt w cb cv cm (l.length + 1) ps 6 → Calls Try.prog 19 #[.pointer (some ⟨cb, 0, none⟩), .int .i64 k] w fun e w' => e = .returned (.tuple #[placeV (getV ps k).1 (getV ps k).2, .int .i64 (getC ps k)]) ∧ Below w.heap.size w w' := fun h => get_any h k
            have HI := Lib.hid hI
            have HC := Lib.hid hC
            generalize getV ps k = z at hgx hgc
            generalize getC ps k = y at hgx hgc
            have HX := Lib.hid hgx
            have HGC : Hid (∀ {w : World}, IndexAt w cb cv cm (l.length + 1) ps 6 → Calls Try.prog 19 #[.pointer (some ⟨cb, 0, none⟩), .int .i64 k] w fun e w' => e = .returned (.tuple #[placeV z.1 z.2, .int .i64 y]) ∧ Below w.heap.size w w') := hgc
            clear hgx hgc hI hC
            go_wp2_with fail
            refine HX.out.mono ?_
            rintro e w6 ⟨rfl, hb6⟩
            have hua : Upd (fun _ => False) wr (w6.alloc (.cells #[.int .i64 z.1, .bool z.2] 36)) := (Upd.of_below hb6).alloc _
            have hpl := heap_alloc_last w6 (.cells #[.int .i64 z.1, .bool z.2] 36) rfl
            have HGC2 := Lib.hid (HGC.out (HC.out.keep hua (fun h => h) (fun _ _ h => h)))
            have HU6 := Lib.hid hua
            have HPL := Lib.hid hpl
            clear hua hpl hb6 HGC HX
            go_wp2_with fail
            refine HGC2.out.mono ?_
            rintro e w7 ⟨rfl, hb7⟩
            have hub : Upd (fun _ => False) (w6.alloc (.cells #[.int .i64 z.1, .bool z.2] 36)) (w7.alloc (.cells #[.int .i64 z.1, .bool z.2] 36)) := (Upd.of_below hb7).alloc _
            have hpl7 := (hub.block w6.heap.size (by simp) (fun h => h)).trans HPL.out
            have a0 := cell_of_block hpl7 0
            have a1 := cell_of_block hpl7 1
            simp at a0 a1
            have HU := Lib.hid (HU6.out.trans hub)
            clear hub hpl7 hb7 HGC2
            go_wp2
            go_roundg (gk - 1)
            case measure => omega
            case rel =>
              exact ⟨k + 1, by omega, by go_num, HI.out.keep HU.out (fun h => h) (fun _ _ h => h), HC.out.keep HU.out (fun h => h) (fun _ _ h => h), below_upd hB HU.out (Nat.le_refl _) (fun _ h => h.elim)⟩
          · have HI := Lib.hid hI
            have HC := Lib.hid hC
            clear hI hC
            generalize hn1 : (vis (spanL ps 0 4096) 0).length = n1
            generalize hn2 : cntD (vis (spanL ps 0 4096) 0) = n2
            have L1 : Hid (∀ {w : World}, IndexAt w cb cv cm (l.length + 1) ps 6 → Calls Try.prog 24 #[.pointer (some ⟨cb, 0, none⟩)] w fun e w' => e = .returned (.int .i64 n1) ∧ Below w.heap.size w w') := fun h => by have := len_any h hpos; rw [hn1] at this; exact this
            have L2 : Hid (∀ {w : World}, IndexAt w b xv mb l.length ps 6 → Calls Try.prog 24 #[.pointer (some ⟨b, 0, none⟩)] w fun e w' => e = .returned (.int .i64 n1) ∧ Below w.heap.size w w') := fun h => by have := len_any h hpos; rw [hn1] at this; exact this
            have D1 : Hid (∀ {w : World}, IndexAt w cb cv cm (l.length + 1) ps 6 → Calls Try.prog 25 #[.pointer (some ⟨cb, 0, none⟩)] w fun e w' => e = .returned (.int .i64 n2) ∧ Below w.heap.size w w') := fun h => by have := dirty_any h hpos; rw [hn2] at this; exact this
            have D2 : Hid (∀ {w : World}, IndexAt w b xv mb l.length ps 6 → Calls Try.prog 25 #[.pointer (some ⟨b, 0, none⟩)] w fun e w' => e = .returned (.int .i64 n2) ∧ Below w.heap.size w w') := fun h => by have := dirty_any h hpos; rw [hn2] at this; exact this
            clear hn1 hn2
            go_wp2_with fail
            refine (L1.out HC.out).mono ?_
            rintro e w6 ⟨rfl, hb6⟩
            have hB6 := hB.trans (hb6.mono hB.size)
            have hI6 := HI.out.below hb6
            have hC6 := HC.out.below hb6
            clear hb6 HI HC hB
            go_wp2_with fail
            refine (L2.out hI6).mono ?_
            rintro e w7 ⟨rfl, hb7⟩
            have hB7 := hB6.trans (hb7.mono hB6.size)
            have hI7 := hI6.below hb7
            have hC7 := hC6.below hb7
            clear hb7 hI6 hC6
            go_wp2_with fail
            refine (D1.out hC7).mono ?_
            rintro e w8 ⟨rfl, hb8⟩
            have hB8 := hB7.trans (hb8.mono hB7.size)
            have hI8 := hI7.below hb8
            clear hb8 hI7 hC7
            go_wp2_with fail
            refine (D2.out hI8).mono ?_
            rintro e w9 ⟨rfl, hb9⟩
            have hB9 := hB8.trans (hb9.mono hB8.size)
            clear hb9 hI8
            go_wp2_with fail
            refine (awake09 _).mono ?_
            rintro e w10 ⟨rfl, hb10⟩
            go_wp2
            go_ret
            have hBB := hBo.trans (hB9.mono (Nat.le_of_lt hwz))
            exact ⟨rfl, hBB.trans (hb10.mono hBB.size)⟩

theorem walk (v : Value) (l : List Op9) (o : Op9) (w : World) (hv : Rd w 4 v l.length (ops9 l)) :
    Calls Try.prog 7 #[v, op9V o] w fun e w' => e = .returned (.bool true) ∧ Below w.heap.size w w' := by
  by_cases h : 80 < l.length
  · exact early v l o w hv h
  · exact main v l o w hv (by omega)
theorem own : ownKnob Try.prog.godebug = none := by kernel_rfl

set_option maxRecDepth 100000 in
theorem lifted (os : Os) (started : os.Started) (H : Type) (enc : TypeId × Value → H) :
    ReturnsInHanded {} Try.checked os 7 .any (Rows.indexBackSpec.pre6 enc Try.prog Try.f7 Rows.indexBackRow.domain false) (Rows.indexBackSpec.post enc Try.prog Try.f7 false true false false) := by
  refine returnsInHanded_of_change (C := Try.checked) own started (by kernel_rfl) Try.func7
    (ChangeSpec.witness6 (enc := enc) (C := Try.checked) false ⟨#[], #[.slice none 0 0,op9V ⟨0, 0, 0, false⟩], []⟩ 8 (by kernel_rfl) (by kernel_rfl) (by kernel_rfl) (by kernel_rfl)) ?_
  intro W base args ds gs before hval0 hW hcnd _
  have hval : ∀ (j : Nat) t v, Try.f7.params[j]? = some t → args[j]? = some v → Value.okWide Try.prog W .any base t v := hval0
  have hW' := hW
  obtain ⟨p, q, hA0, hV, rfl, hfz, hnd⟩ := hW
  have hA : DataW.TrodAll enc Try.prog W 0 (fun _ => true) true Try.f7.params.toList args.toList ds p := hA0
  rw [Try.params7] at hA hval
  obtain ⟨v0, vs0, d0, ds0, p0, q0, hargs, rfl, rfl, h0, r0⟩ := trodAll_cons hA
  obtain ⟨v1, vs1, d1, ds1, p1, q1, rfl, rfl, rfl, h1, r1⟩ := trodAll_cons r0
  obtain ⟨rfl, rfl, rfl⟩ := trodAll_nil r1
  obtain rfl : args = #[v0, v1] := by cases args; simp_all
  obtain ⟨rfl, rfl⟩ := trodVars_none hV
  obtain ⟨l, hl, _⟩ := open_rd (fun o : Op9 => [.int .i64 o.ask, .int .i64 o.blk, .int .i64 o.slot, .bool o.dirty]) (fun _ => True) (k := 4) (fun _ => rfl) (by decide) Try.underlying22 cells_op9 opEl9 (hval 0 22 v0 rfl rfl) h0
  obtain ⟨o, rfl⟩ := open_op9 (hval 1 32 v1 rfl rfl) h1
  refine (walk v0 l o W hl).mono fun e W' ⟨he, hb⟩ => ?_
  subst he
  exact ⟨_, rfl, law_post (T := 4) (by kernel_rfl) (by kernel_rfl) rfl Try.underlying4 rfl rfl hW' hb⟩

theorem over : Rows.indexBackRow.holds Try.pinned (OpenSpec.ofChange Rows.indexBackSpec) :=
  OpenClaim.holds_of_wide 7 Try.f7 rfl rfl rfl rfl rfl rfl rfl ⟨rfl, rfl, rfl, rfl, rfl⟩ rfl rfl rfl rfl rfl (by kernel_rfl) Try.func7 (by kernel_rfl)
    (of_decide_eq_true (by kernel_rfl)) (by unfold Func.isWrapper; first | (rw [if_pos (by decide +kernel)]; kernel_rfl) | (rw [if_neg (by decide +kernel)]; exact ⟨rfl, rfl⟩))
    (fun os started H enc _ => lifted os started H enc)

/-- The statement. -/
theorem proved : Rows.IndexBackSaid :=
  over
end Go.Proofs.Ytmgcekpfnkcmjaa.indexBack
