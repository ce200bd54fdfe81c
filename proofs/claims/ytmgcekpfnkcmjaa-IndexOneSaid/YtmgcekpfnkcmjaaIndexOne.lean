/- No slot has two blocks, and At of a block's slot is the block: for every list of calls. -/
import Derived.Test.YtmgcekpfnkcmjaaPlay09
import Derived.Test.YtmgcekpfnkcmjaaSeen09
import Derived.Test.YtmgcekpfnkcmjaaRows
import Derived.Deep.RegionHeld3
namespace Go.Proofs.Ytmgcekpfnkcmjaa.indexOne
open Go Go.RowKit Go.ChangeShapes Go.WideShapes Go.ChangeAt Go.Proofs.Ytmgcekpfnkcmjaa

set_option maxRecDepth 100000 in
theorem early (v : Value) (l : List Op9) (w : World) (hv : Rd w 4 v l.length (ops9 l)) (h : 80 < l.length) :
    Calls Try.prog 6 #[v] w fun e w' => e = .returned (.bool true) ∧ Below w.heap.size w w' := by
  have hle := hv.le
  unfold maxLen at hle
  obtain ⟨ao, c, rfl⟩ := hv.nil_iff
  clear hv
  go_enter Try.func6, Try.ntmps6
  go_wp2_with fail
  refine (inew_ok 12 6 _ (by decide) (by decide) (by decide) (by decide)).mono ?_
  rintro e w1 ⟨b, v, mb, rfl, _, hb, hmb, hfv, hB1⟩
  go_wp2_with fail
  refine (awake09 _).mono ?_
  rintro e w2 ⟨rfl, hb2⟩
  go_wp2
  go_ret
  exact ⟨rfl, hB1.trans (hb2.mono hB1.size)⟩

set_option maxRecDepth 100000 in
set_option maxHeartbeats 4000000 in
theorem main (v : Value) (l : List Op9) (w : World) (hv : Rd w 4 v l.length (ops9 l)) (h : l.length ≤ 80) :
    Calls Try.prog 6 #[v] w fun e w' => e = .returned (.bool true) ∧ Below w.heap.size w w' := by
  have HV := Lib.hid hv
  obtain ⟨ao, c, rfl⟩ := hv.nil_iff
  clear hv
  go_enter Try.func6, Try.ntmps6
  go_wp2_with fail
  refine (inew_ok 12 6 _ (by decide) (by decide) (by decide) (by decide)).mono ?_
  rintro e w1 ⟨b, xv, mb, rfl, hI1, hb, hmb, hfv, hB1⟩
  have HS : Hid (∀ j, ixS xv mb j → w.heap.size ≤ j) := fun j hj => hj.elim (hfv j) (fun e => e ▸ hmb)
  have HB := Lib.hid hb
  clear hmb hfv hb
  go_wp2_with fail
  go_loopg [5] l.length (fun g i wr => ∃ (k : Nat) (ps : List (Int × Bool)), k + g = l.length ∧ i = .int .i64 k ∧ ps.length = 12 ∧ IndexAt wr b xv mb k ps 6 ∧ Below w.heap.size w wr)
  case atStart => exact ⟨0, _, by omega, rfl, by simp, hI1, hB1⟩
  case round =>
    clear hI1 hB1 w1
    obtain ⟨k, ps, hk, rfl, hpn, hI, hB⟩ := hrel
    by_cases hlt : k < l.length
    · obtain ⟨bl, off, c', hvv, hbl, p0, p1, p2, p3⟩ := op_cells HV.out hlt
      cases hvv
      have g0 := (hB.cell (p := ⟨bl, off + k * 4, none⟩) hbl).trans p0
      have g1 := (hB.cell (p := ⟨bl, off + k * 4 + 1, none⟩) hbl).trans p1
      have g2 := (hB.cell (p := ⟨bl, off + k * 4 + 2, none⟩) hbl).trans p2
      have g3 := (hB.cell (p := ⟨bl, off + k * 4 + 3, none⟩) hbl).trans p3
      have hbz := hB.size
      have HId : Hid (IndexAt wr.drew b xv mb k ps 6) := hI.keep ((Upd.refl (fun _ => False) _).drew) (fun h => h) (fun _ _ h => h)
      clear p0 p1 p2 p3 hI
      go_wp2
      go_region_held3 (fun W => W.cell? ⟨bl, off + k * 4, none⟩ = some (.int .i64 l[k].ask) ∧ W.cell? ⟨bl, off + k * 4 + 1, none⟩ = some (.int .i64 l[k].blk) ∧ W.cell? ⟨bl, off + k * 4 + 2, none⟩ = some (.int .i64 l[k].slot) ∧ W.cell? ⟨bl, off + k * 4 + 3, none⟩ = some (.bool l[k].dirty)) (go_keep)
        (first
        | ((go_at_call 16; refine (rnew_ok 12 6 _ (by decide) (by decide)).mono ?_; rintro e w2 ⟨rb, vs, vd, rfl, hr, hrb, hrs, hb2⟩; have q0 := (hb2.cell (p := ⟨bl, off + k * 4, none⟩) (Nat.lt_of_lt_of_le hbl hbz)).trans g0; have q1 := (hb2.cell (p := ⟨bl, off + k * 4 + 1, none⟩) (Nat.lt_of_lt_of_le hbl hbz)).trans g1; have q2 := (hb2.cell (p := ⟨bl, off + k * 4 + 2, none⟩) (Nat.lt_of_lt_of_le hbl hbz)).trans g2; have q3 := (hb2.cell (p := ⟨bl, off + k * 4 + 3, none⟩) (Nat.lt_of_lt_of_le hbl hbz)).trans g3))
        | ((go_at_call 15; refine (does_any (HId.out.below hb2) hr (Good.start 12 6) (by unfold maxLen; omega) (by rintro j (rfl | hj) hj2; exact absurd (hrs _ hj2) (by have := HId.out.blt; omega); exact absurd (hrs _ hj2) (by have := HId.out.slt _ hj; omega)) (fun hj => by have := HId.out.slt _ hj; omega) l[k]).mono ?_; rintro e w3 ⟨⟨bb, rfl, _⟩, hI3, hr3, hu3⟩; have hns : ¬ (ixS xv mb bl ∨ rS vs vd bl) := (fun e => e.elim (fun e => by have := HS.out _ e; omega) (fun e => by have := hrs _ e; simp at this; omega)); have hbl2 : bl < w2.heap.size := Nat.lt_of_lt_of_le (Nat.lt_of_lt_of_le hbl hbz) hb2.size; have r0 := (hu3.cellAt (o := off + k * 4) hbl2 hns).trans q0; have r1 := (hu3.cellAt (o := off + k * 4 + 1) hbl2 hns).trans q1; have r2 := (hu3.cellAt (o := off + k * 4 + 2) hbl2 hns).trans q2; have r3 := (hu3.cellAt (o := off + k * 4 + 3) hbl2 hns).trans q3)))
      have hB3 : Below w.heap.size w w3 := below_upd (hB.trans ((Below.undrew hb2).mono hB.size)) hu3 (Nat.le_refl _) (fun j hj => hj.elim (HS.out j) (fun e => by have := hrs _ e; simp at this; omega))
      have HI3 := Lib.hid hI3
      have HL : Hid ((doL ps 6 l[k]).length = 12) := by show _ = _; rw [doL_len]; exact hpn
      clear hI3 hr3 hu3 r0 r1 r2 r3 q0 q1 q2 q3 g0 g1 g2 g3 hr hrs hb2 hns hB HId
      go_wp2
      go_roundg (gk - 1)
      case measure => omega
      case rel => exact ⟨k + 1, _, by omega, by go_num, HL.out, HI3.out, hB3⟩
    · obtain rfl : k = l.length := by omega
      have hle := hI.le
      have hgood := hI.good
      have HG : Hid (Good ps 6) := hgood
      have hu0 : Upd (fun _ => False) wr (wr.alloc (.cells #[.bool false, .bool false, .bool false, .bool false, .bool false, .bool false] 52)) := (Upd.refl _ _).alloc _
      have hI0 := hI.keep hu0 (fun h => h) (fun _ _ h => h)
      have hA0 : (wr.alloc (.cells #[.bool false, .bool false, .bool false, .bool false, .bool false, .bool false] 52)).heap[wr.heap.size]? = some (.cells (snA ps 0) 52) := by rw [snA_zero ps]; exact heap_alloc_last wr _ rfl
      have hB0 := below_upd hB hu0 (Nat.le_refl _) (fun _ h => h.elim)
      have HIL : Hid (b < wr.heap.size ∧ ∀ j, ixS xv mb j → j < wr.heap.size) := ⟨hI.blt, hI.slt⟩
      have hbz := hB.size
      obtain ⟨wb, rfl⟩ : ∃ wb : World, wb = wr := ⟨_, rfl⟩
      have H0 := Lib.hid (And.intro hI0 (And.intro hA0 hB0))
      clear hI hu0 hI0 hA0 hB0 hB hgood
      go_wp2_with fail
      go_loopg [7, 8, 9] 12 (fun g n d i wr => ∃ k : Nat, k + g = 12 ∧ n = .int .i64 ((visTo ps 0 k).length : Int) ∧ d = .int .i64 (cntD (visTo ps 0 k) : Int) ∧ i = .int .i64 k ∧ IndexAt wr b xv mb l.length ps 6 ∧ wr.heap[wb.heap.size]? = some (.cells (snA ps k) 52) ∧ Below w.heap.size w wr)
      case atStart => exact ⟨0, by omega, rfl, rfl, rfl, H0.out.1, H0.out.2.1, H0.out.2.2⟩
      case round =>
        clear H0
        obtain ⟨k, hk, rfl, rfl, rfl, hI, hA, hB⟩ := hrel
        by_cases hlt : k < 12
        · have hkp : k < ps.length := by omega
          have hnl : ((visTo ps 0 k).length : Int) ≤ 12 := by have := visTo_len ps 0 k; omega
          have hdl : (cntD (visTo ps 0 k) : Int) ≤ 12 := by have := visTo_len ps 0 k; have := cntD_le (visTo ps 0 k); omega
          rcases HG.out.each k hkp with hp | ⟨hp0, hp1⟩
          · have hgx := Lib.hid (get_none hI k hkp hp)
            have HM : Hid (visTo ps 0 (k + 1) = visTo ps 0 k ∧ snA ps (k + 1) = snA ps k) := ⟨visTo_miss hkp hp, snA_miss hkp hp⟩
            have HI := Lib.hid hI
            have HA := Lib.hid hA
            clear hp hI hA
            go_wp2_with fail
            refine hgx.out.mono ?_
            rintro e w4 ⟨rfl, hb4⟩
            have HU := Lib.hid ((Upd.of_below (S := fun _ => False) hb4).alloc (.cells #[.int .i64 0, .bool false] 36))
            clear hb4 hgx
            go_wp2
            go_roundg (gk - 1)
            case measure => omega
            case rel =>
              exact ⟨k + 1, by omega, by rw [HM.out.1], by rw [HM.out.1], by go_num, HI.out.keep HU.out (fun h => h) (fun _ _ h => h), by rw [HM.out.2]; exact (HU.out.block _ (lt_of_block HA.out) (fun h => h)).trans HA.out, below_upd hB HU.out (Nat.le_refl _) (fun _ h => h.elim)⟩
          · obtain ⟨s, d, hps⟩ : ∃ (s : Nat) (d : Bool), ps[k] = ((s : Int), d) := ⟨ps[k].1.toNat, ps[k].2, by rw [Int.toNat_of_nonneg hp0]⟩
            have hs6 : s < 6 := by rw [hps] at hp1; simp at hp1; omega
            have hne : ps[k] ≠ (-1, false) := fun e => by rw [hps] at e; have := congrArg Prod.fst e; simp at this
            have hgx := get_some hI k hkp (by rw [hps]; simp)
            rw [hps] at hgx
            have he1 : ps[k].1 = (s : Int) := by rw [hps]
            have hv := visTo_hit (fr := 0) hkp hne
            rw [hps] at hv
            have hst := snA_hit HG.out hkp he1 hs6
            have hfr := snB_fresh HG.out hkp he1
            have hat : atC ps 6 s = 0 ∧ atV ps 6 s = k := by
              have := HG.out.at hkp (by omega)
              rw [he1] at this
              have ho : ¬ ((s : Int) < 0 ∨ ((6 : Nat) : Int) ≤ s) := by omega
              exact ⟨by unfold atC; rw [if_neg ho, if_neg (by rw [this]; simp)], by unfold atV; rw [if_neg ho, this]; rfl⟩
            have HAT : Hid (∀ {w : World}, IndexAt w b xv mb l.length ps 6 → Calls Try.prog 23 #[.pointer (some ⟨b, 0, none⟩), .int .i64 s] w fun e w' => e = .returned (.tuple #[.int .i64 k, .int .i64 0]) ∧ w' = w) := fun h => by
              have := at_any h s
              rw [hat.1, hat.2] at this
              exact this
            have HV := Lib.hid hv
            have HST := Lib.hid hst
            have HFR := Lib.hid hfr
            have HX := Lib.hid hgx
            have HI := Lib.hid hI
            have HA := Lib.hid hA
            have s0 : (0 : Int) ≤ s := by omega
            have s1 : (s : Int) < 6 := by omega
            have s2 : ¬ (5 : Int) < s := by omega
            clear hp0 hp1 hps hne hgx he1 hv hst hfr hat hI hA
            go_wp2_with fail
            refine HX.out.mono ?_
            rintro e w4 ⟨rfl, hb4⟩
            have hu4 : Upd (fun _ => False) wr (w4.alloc (.cells #[.int .i64 s, .bool d] 36)) := (Upd.of_below hb4).alloc _
            have hA4 := (hu4.block _ (lt_of_block HA.out) (fun h => h)).trans HA.out
            have a0 := (cell_of_block hA4 s).trans (snA_at ps k hs6)
            have a1 := frozen_of_block hA4 s
            rw [HFR.out] at a0
            have hzb := lt_of_block HA.out
            have hz4 := hb4.size
            have hus : Upd (fun j => j = wb.heap.size) (w4.alloc (.cells #[.int .i64 s, .bool d] 36)) ((w4.alloc (.cells #[.int .i64 s, .bool d] 36)).setCell ⟨wb.heap.size, s, none⟩ (.bool true)) := upd_setCell _ _ _ _
            have hI5 := (HI.out.keep hu4 (fun h => h) (fun _ _ h => h)).keep hus (fun e => by have := HIL.out.1; omega) (fun j hj e => by have := HIL.out.2 j hj; omega)
            have hA5 := heap_setCell_same hA4 s (.bool true)
            rw [HST.out] at hA5
            have hB5 := below_upd (below_upd hB hu4 (Nat.le_refl _) (fun _ h => h.elim)) hus (Nat.le_refl _) (fun j e => by omega)
            have hpl := heap_alloc_last w4 (.cells #[.int .i64 s, .bool d] 36) rfl
            have hne4 : w4.heap.size ≠ wb.heap.size := by omega
            have c0 := (hus.cellAt (b := w4.heap.size) (o := 0) (by simp) hne4).trans (cell_of_block hpl 0)
            have c1 := (hus.cellAt (b := w4.heap.size) (o := 1) (by simp) hne4).trans (cell_of_block hpl 1)
            simp at c0 c1
            have H5 := Lib.hid (And.intro hI5 (And.intro hA5 hB5))
            have HX5 := Lib.hid (HAT.out hI5)
            clear hu4 hA4 hus hI5 hA5 hB5 hpl hb4 HX HAT hB
            have hkb : ((k : Int) == (k : Int)) = true := by simp
            cases d
            all_goals
              go_wp2_with fail
              refine HX5.out.mono ?_
              rintro e w6 ⟨rfl, rfl⟩
              go_wp2
              go_roundg (gk - 1)
              case measure => omega
              case rel =>
                refine ⟨k + 1, by omega, ?_, ?_, by go_num, H5.out.1, H5.out.2.1, H5.out.2.2⟩
                · rw [HV.out]; simp
                · rw [HV.out, cntD_snoc]; simp
        · obtain rfl : k = 12 := by omega
          have hvis : vis (spanL ps 0 4096) 0 = visTo ps 0 12 := by rw [span_all hle]; unfold vis; rw [hpn]
          have HVS := Lib.hid hvis
          obtain ⟨wc, rfl⟩ : ∃ wc : World, wc = wr := ⟨_, rfl⟩
          have H6 := Lib.hid (And.intro hI (And.intro hA hB))
          have HTL : Hid (wb.heap.size < wc.heap.size) := lt_of_block hA
          clear hI hA hB hvis
          go_wp2_with fail
          go_loopg [14] 6 (fun g i wr => ∃ k : Nat, k + g = 6 ∧ i = .int .i64 k ∧ IndexAt wr b xv mb l.length ps 6 ∧ wr.heap[wb.heap.size]? = some (.cells (snA ps 12) 52) ∧ Below w.heap.size w wr)
          case atStart => exact ⟨0, by omega, rfl, H6.out.1, H6.out.2.1, H6.out.2.2⟩
          case round =>
            clear H6
            obtain ⟨k, hk, rfl, hI, hA, hB⟩ := hrel
            by_cases hlt : k < 6
            · have hat := at_any hI k
              have ho : ¬ ((k : Int) < 0 ∨ ((6 : Nat) : Int) ≤ k) := by omega
              have a0 := (cell_of_block hA k).trans (snA_at ps 12 hlt)
              have hend : snB ps 12 k = (atOf ps (k : Int)).isSome := by have := snB_end ps k; rw [hpn] at this; exact this
              rw [hend] at a0
              have k0 : (0 : Int) ≤ k := by omega
              have k1 : (k : Int) < 6 := by omega
              have H7 := Lib.hid (And.intro hI (And.intro hA hB))
              cases ha : atOf ps (k : Int)
              case' none =>
                rw [show atC ps 6 k = 14 by unfold atC; rw [if_neg ho, if_pos ha]] at hat
                rw [ha] at a0
                simp only [Option.isSome_none] at a0
              case' some kk =>
                rw [show atC ps 6 k = 0 by unfold atC; rw [if_neg ho, if_neg (by rw [ha]; simp)]] at hat
                rw [ha] at a0
                simp only [Option.isSome_some] at a0
              all_goals
                generalize atV ps 6 k = z at hat
                have HAT := Lib.hid hat
                clear hat hI hA hB hend ha ho
                go_wp2_with fail
                refine HAT.out.mono ?_
                rintro e w6 ⟨rfl, rfl⟩
                go_wp2
                go_roundg (gk - 1)
                case measure => omega
                case rel => exact ⟨k + 1, by omega, by go_num, H7.out⟩
            · obtain rfl : k = 6 := by omega
              have hlen := len_any hI (by omega)
              rw [HVS.out] at hlen
              have HL := Lib.hid hlen
              have HI := Lib.hid hI
              have hpos : 0 < ps.length := by omega
              clear hI hA hlen
              generalize hn1 : (visTo ps 0 12).length = n1 at *
              generalize hn2 : cntD (visTo ps 0 12) = n2 at *
              go_wp2_with fail
              refine HL.out.mono ?_
              rintro e w7 ⟨rfl, hb7⟩
              have hd := dirty_any (HI.out.below hb7) hpos
              rw [HVS.out, hn2] at hd
              have HD := Lib.hid hd
              have hB7 := hB.trans (hb7.mono hB.size)
              clear hd hb7
              go_wp2_with fail
              refine HD.out.mono ?_
              rintro e w8 ⟨rfl, hb8⟩
              have hB8 := hB7.trans (hb8.mono hB7.size)
              clear hb8
              go_wp2_with fail
              refine (awake09 _).mono ?_
              rintro e w9 ⟨rfl, hb9⟩
              go_wp2
              go_ret
              exact ⟨rfl, hB8.trans (hb9.mono hB8.size)⟩

theorem walk (v : Value) (l : List Op9) (w : World) (hv : Rd w 4 v l.length (ops9 l)) :
    Calls Try.prog 6 #[v] w fun e w' => e = .returned (.bool true) ∧ Below w.heap.size w w' := by
  by_cases h : 80 < l.length
  · exact early v l w hv h
  · exact main v l w hv (by omega)
theorem own : ownKnob Try.prog.godebug = none := by kernel_rfl

set_option maxRecDepth 100000 in
theorem lifted (os : Os) (started : os.Started) (H : Type) (enc : TypeId × Value → H) :
    ReturnsInHanded {} Try.checked os 6 .any (Rows.indexOneSpec.pre6 enc Try.prog Try.f6 Rows.indexOneRow.domain false) (Rows.indexOneSpec.post enc Try.prog Try.f6 false true false false) := by
  refine returnsInHanded_of_change (C := Try.checked) own started (by kernel_rfl) Try.func6
    (ChangeSpec.witness6 (enc := enc) (C := Try.checked) false ⟨#[], #[.slice none 0 0], []⟩ 8 (by kernel_rfl) (by kernel_rfl) (by kernel_rfl) (by kernel_rfl)) ?_
  intro W base args ds gs before hval0 hW hcnd _
  have hval : ∀ (j : Nat) t v, Try.f6.params[j]? = some t → args[j]? = some v → Value.okWide Try.prog W .any base t v := hval0
  have hW' := hW
  obtain ⟨p, q, hA0, hV, rfl, hfz, hnd⟩ := hW
  have hA : DataW.TrodAll enc Try.prog W 0 (fun _ => true) true Try.f6.params.toList args.toList ds p := hA0
  rw [Try.params6] at hA hval
  obtain ⟨v0, vs0, d0, ds0, p0, q0, hargs, rfl, rfl, h0, r0⟩ := trodAll_cons hA
  obtain ⟨rfl, rfl, rfl⟩ := trodAll_nil r0
  obtain rfl : args = #[v0] := by cases args; simp_all
  obtain ⟨rfl, rfl⟩ := trodVars_none hV
  obtain ⟨l, hl, _⟩ := open_rd (fun o : Op9 => [.int .i64 o.ask, .int .i64 o.blk, .int .i64 o.slot, .bool o.dirty]) (fun _ => True) (k := 4) (fun _ => rfl) (by decide) Try.underlying22 cells_op9 opEl9 (hval 0 22 v0 rfl rfl) h0
  refine (walk v0 l W hl).mono fun e W' ⟨he, hb⟩ => ?_
  subst he
  exact ⟨_, rfl, law_post (T := 4) (by kernel_rfl) (by kernel_rfl) rfl Try.underlying4 rfl rfl hW' hb⟩

theorem over : Rows.indexOneRow.holds Try.pinned (OpenSpec.ofChange Rows.indexOneSpec) :=
  OpenClaim.holds_of_wide 6 Try.f6 rfl rfl rfl rfl rfl rfl rfl ⟨rfl, rfl, rfl, rfl, rfl⟩ rfl rfl rfl rfl rfl (by kernel_rfl) Try.func6 (by kernel_rfl)
    (of_decide_eq_true (by kernel_rfl)) (by unfold Func.isWrapper; first | (rw [if_pos (by decide +kernel)]; kernel_rfl) | (rw [if_neg (by decide +kernel)]; exact ⟨rfl, rfl⟩))
    (fun os started H enc _ => lifted os started H enc)

/-- The statement. -/
theorem proved : Rows.IndexOneSaid :=
  over
end Go.Proofs.Ytmgcekpfnkcmjaa.indexOne
