/- What is put into a ring is taken, in the same order, each once, as far as there is room, whether or not it is closed ahead. No condition. -/
import Derived.Test.YtolhlfahoooliaaAwake02
import Derived.Test.YtolhlfahoooliaaLaw
import Derived.Test.YtolhlfahoooliaaRows
namespace Go.Proofs.Ytolhlfahoooliaa.ringOrder
open Go Go.RowKit Go.ChangeShapes Go.WideShapes Go.ChangeAt Go.Proofs.Ytolhlfahoooliaa Go.Conc

theorem early (v : Value) (l : List Int) (most : Int) (shut : Bool) (w : World) (hv : Rd w 1 v l.length (ints l)) (h : most < 1 ∨ 1024 < most ∨ 200 < l.length) :
    Calls Try.prog 4 #[v, .int .i64 most, .bool shut] w fun e w' => e = .returned (.bool true) ∧ Below w.heap.size w w' := by
  have hle := hv.le
  unfold maxLen at hle
  obtain ⟨ao, c, rfl⟩ := hv.nil_iff
  clear hv
  by_cases h1 : most < 1 ∨ 1024 < most
  · have H1 := Lib.hid h1
    clear h1 h
    go_enter Try.func4, Try.ntmps4
    go_wp2_with fail
    refine (new_bad _ _ H1.out).mono ?_
    rintro e w1 ⟨rfl, rfl⟩
    go_wp2_with fail
    refine (awake02 _).mono ?_
    rintro e w' ⟨rfl, hb⟩
    go_wp2
    go_ret
    exact ⟨rfl, hb⟩
  · have hl : 200 < l.length := by omega
    have H1 : Hid (1 ≤ most ∧ most ≤ 1024) := ⟨by omega, by omega⟩
    clear h1 h
    go_enter Try.func4, Try.ntmps4
    go_wp2_with fail
    refine (new_ok _ _ H1.out.1 H1.out.2).mono ?_
    rintro e w1 ⟨rfl, _, hb1⟩
    go_wp2_with fail
    refine (awake02 _).mono ?_
    rintro e w' ⟨rfl, hb⟩
    go_wp2
    go_ret
    exact ⟨rfl, hb1.trans (hb.mono hb1.size)⟩

set_option maxHeartbeats 2000000 in
theorem main (v : Value) (l : List Int) (m : Nat) (shut : Bool) (w : World) (hv : Rd w 1 v l.length (ints l)) (h1 : 1 ≤ m) (h2 : m ≤ 1024) (hl : l.length ≤ 200) :
    Calls Try.prog 4 #[v, .int .i64 m, .bool shut] w fun e w' => e = .returned (.bool true) ∧ Below w.heap.size w w' := by
  obtain ⟨i0, hi, hz0, hz1, hz2⟩ := info_parts infoInt
  have HV := Lib.hid hv
  obtain ⟨ao, c, rfl⟩ := hv.nil_iff
  clear hv
  go_enter Try.func4, Try.ntmps4
  go_wp2_with fail
  refine (new_ok _ _ (by omega) (by omega)).mono ?_
  rintro e w1 ⟨rfl, hr1, hb1⟩
  rw [Int.toNat_natCast] at hr1
  have hsz1 := (lt_of_block hr1.str)
  go_wp2_with fail
  go_loopg [9, 10] l.length (fun g v i wr => ∃ k : Nat, k + g = l.length ∧ i = .int .i64 k ∧ RingAt 76 wr (w.heap.size + 1) w.heap.size m (ints ((l.take m).take k)) false ∧
     Sl wr 3 1 v ((l.take m).take k).length (ints ((l.take m).take k)) ∧ From (w.heap.size + 2) v ∧ Below w.heap.size w wr ∧ w.heap.size + 2 ≤ wr.heap.size)
  case atStart => exact ⟨0, by omega, rfl, by simpa using hr1, by simpa using Sl.nil _ _ _, From.nil _ _ _, hb1, by omega⟩
  case round =>
    clear hr1 hb1 hsz1 w1
    obtain ⟨k, hk, rfl, hr, hs, hown, hb, hsz⟩ := hrel
    obtain ⟨vo, vc, rfl⟩ := hs.rd.nil_iff
    replace hown := hown.len (n' := k) (c' := vc)
    by_cases hlt : k < l.length
    · obtain ⟨bl, off, c', hvv, hbl, hcells⟩ := HV.out.at (by omega)
      cases hvv
      have hc : wr.cell? ⟨bl, off + k, none⟩ = some (.int .i64 l[k]) := (hb.cell hbl).trans (hcells k _ (get_ints hlt))
      clear hcells
      by_cases hkm : k < m
      · have htk : ((l.take m).take k).length = k := by simp; omega
        have hnx : Hid ((l.take m).take (k + 1) = (l.take m).take k ++ [l[k]]) := by
          have hlt2 : k < (l.take m).length := by simp; omega
          rw [List.take_succ_eq_append_getElem hlt2, List.getElem_take]; exact rfl
        rw [htk] at hs ⊢
        have HT := Lib.hid htk; clear htk
        go_wp2_with fail
        refine (put_ok hr _ (by have := HT.out; simp at this ⊢; omega)).mono ?_
        rintro e w2 ⟨rfl, hr2, hu2⟩
        have hb2 := below_upd hb hu2 (Nat.le_refl _) (by rintro j (rfl | rfl) <;> omega)
        have hs2 := hs.keep_lt hown hu2 (bc_lt (by omega) (by omega))
        have hc2 : w2.cell? ⟨bl, off + k, none⟩ = some (.int .i64 l[k]) := (hb2.cell hbl).trans ((hb.cell hbl).symm.trans hc)
        have hsz2 := Nat.le_trans hsz hu2.size
        clear hr hs hc hb hu2
        go_wp2_with (at_builtin; refine wpList_append_one rfl _ _ 42 rfl i0 (.int .i64 0) 8 Try.underlying42 hi hz0 hz1 hz2 rfl (by decide) rfl hs2 [.int .i64 l[k]] rfl rfl (by simp [Value.oneCell']) (by unfold maxLen; omega) (by omega) ?_)
        intro v' w3 hs3 hu3 hb3
        have hown3 := hb3.ge hsz2 hown
        have hbb3 := below_upd hb2 hu3 (Nat.le_refl _) (hown.mono (by omega)).own
        have hr3 := hr2.keep_from (B := w.heap.size + 2) hu3 (by omega) (by omega) hown.own
        go_wp2
        go_roundg (gk - 1)
        case measure => omega
        case rel =>
          refine ⟨k + 1, by omega, by go_num, ?_, ?_, hown3, hbb3, Nat.le_trans hsz2 hu3.size⟩
          · rw [hnx.out, ints_append]; exact hr3
          · rw [hnx.out, ints_append, List.length_append, HT.out]; exact hs3
      · have hnx : Hid ((l.take m).take (k + 1) = (l.take m).take k) := by
          show (l.take m).take (k + 1) = (l.take m).take k
          rw [List.take_take, List.take_take, Nat.min_eq_right (by omega), Nat.min_eq_right (by omega)]
        have htk : Hid (((l.take m).take k).length = m) := by show _ = _; simp; omega
        rw [htk.out] at hs ⊢
        go_wp2_with fail
        refine (put_full hr _ (by rw [length_ints, htk.out]; omega)).mono ?_
        rintro e w2 ⟨rfl, hr2, hu2⟩
        have hb2 := below_upd hb hu2 (Nat.le_refl _) (by rintro j (rfl | rfl) <;> omega)
        have hs2 := hs.keep_lt (hown.len (n' := m) (c' := vc)) hu2 (bc_lt (by omega) (by omega))
        have hsz2 := Nat.le_trans hsz hu2.size
        clear hr hs hc hb hu2
        go_wp2
        go_roundg (gk - 1)
        case measure => omega
        case rel =>
          refine ⟨k + 1, by omega, by go_num, ?_, ?_, hown.len, hb2, hsz2⟩
          · rw [hnx.out]; exact hr2
          · rw [hnx.out, htk.out]; exact hs2
    · obtain rfl : k = l.length := by omega
      have hp : Hid ((l.take m).take l.length = l.take m) := by show _ = _; rw [List.take_of_length_le (by simp; omega)]
      rw [hp.out] at hr hs
      replace hown := hown.len (n' := (l.take m).length) (c' := vc)
      have hpl : (l.take m).length ≤ 200 := by simp; omega
      rw [hp.out]
      clear hp HV hk
      obtain ⟨p, hpe⟩ : ∃ p : List Int, p = l.take m := ⟨_, rfl⟩
      rw [← hpe] at hr hs hown hpl ⊢
      clear hpe
      have hpm := hr.le
      rw [length_ints] at hpm
      have hpz : (p.length : Int) ≤ 200 := by omega
      rcases Bool.eq_false_or_eq_true shut with rfl | rfl
      case' _ =>
        go_wp2_with fail
        refine (close_any hr).mono ?_
        rintro e w2 ⟨rfl, hr2, hu2⟩
        have hb2 := below_upd hb hu2 (Nat.le_refl _) (bc_ge (by omega) (by omega))
        have hs2 := hs.keep_lt hown hu2 (bc_lt (by omega) (by omega))
        have hsz2 := Nat.le_trans hsz hu2.size
        clear hr hs hb hu2 hsz
        go_wp2_with fail
        obtain ⟨wa, rfl⟩ : ∃ wa : World, wa = w2 := ⟨_, rfl⟩
      rotate_left
      case' _ =>
        have hr2 := hr; have hb2 := hb; have hs2 := hs; have hsz2 := hsz
        clear hr hb hs hsz
        go_wp2_with fail
        obtain ⟨wa, rfl⟩ : ∃ wa : World, wa = wr := ⟨_, rfl⟩
      all_goals
        have hwlt : ∀ g, (Value.slice vo p.length vc).ownBlock = some g → g < wa.heap.size := fun g hg => hs2.lt hg
        have HW := Lib.hid hwlt
        clear hwlt
        go_loopg [12, 13] (p.length + 1) (fun g v i wr => ∃ k : Nat, k + g = p.length + 1 ∧ k ≤ p.length ∧ i = .int .i64 k ∧ RingAt 76 wr (w.heap.size + 1) w.heap.size m (ints (p.drop k)) _ ∧
          Sl wr 3 1 v k (ints (p.take k)) ∧ From wa.heap.size v ∧ Below w.heap.size w wr ∧ Sl wr 3 1 (.slice vo p.length vc) p.length (ints p) ∧ wa.heap.size ≤ wr.heap.size)
        case atStart => exact ⟨0, by omega, by omega, rfl, hr2, by simpa using Sl.nil _ _ _, From.nil _ _ _, hb2, hs2, Nat.le_refl _⟩
        case round =>
          clear hr2 hb2 hs2
          obtain ⟨k, hk, hkp, rfl, hr, hg, hgo, hb, hs, hsz⟩ := hrel
          obtain ⟨go, gc, rfl⟩ := hg.rd.nil_iff
          replace hgo := hgo.len (n' := k) (c' := gc)
          by_cases hlt : k < p.length
          · rw [List.drop_eq_getElem_cons hlt, ints_cons] at hr
            have hnx : Hid (p.take (k + 1) = p.take k ++ [p[k]]) := List.take_succ_eq_append_getElem hlt
            go_wp2_with fail
            refine (take_some hr).mono ?_
            rintro e w3 ⟨rfl, hr3, hu3⟩
            have hb3 := below_upd hb hu3 (Nat.le_refl _) (bc_ge (by omega) (by omega))
            have hs3 := hs.keep_lt hown hu3 (bc_lt (by omega) (by omega))
            have hg3 := hg.keep_lt hgo hu3 (bc_lt (by omega) (by omega))
            have hsz3 := Nat.le_trans hsz hu3.size
            clear hr hs hb hu3 hsz hg
            go_wp2_with (at_builtin; refine wpList_append_one rfl _ _ 42 rfl i0 (.int .i64 0) 8 Try.underlying42 hi hz0 hz1 hz2 rfl (by decide) rfl hg3 [.int .i64 p[k]] rfl rfl (by simp [Value.oneCell']) (by unfold maxLen; omega) (by omega) ?_)
            intro v' w4 hg4 hu4 hb4
            have hgo4 := hb4.ge hsz3 hgo
            have hbb4 := below_upd hb3 hu4 (Nat.le_refl _) (hgo.mono (by omega)).own
            have hr4 := hr3.keep_from (B := wa.heap.size) hu4 (by omega) (by omega) hgo.own
            have hs4 := hs3.keep_from HW.out hu4 hgo.own
            go_wp2
            go_roundg (gk - 1)
            case measure => omega
            case rel => exact ⟨k + 1, by omega, by omega, by go_num, hr4, by rw [hnx.out, ints_append]; exact hg4, hgo4, hbb4, hs4, Nat.le_trans hsz3 hu4.size⟩
          · obtain rfl : k = p.length := by omega
            rw [List.drop_length, ints_nil] at hr
            rw [List.take_length] at hg
            go_wp2_with fail
            refine (take_none hr).mono ?_
            rintro e w3 ⟨rfl, hr3, hu3⟩
            have hb3 := below_upd hb hu3 (Nat.le_refl _) (bc_ge (by omega) (by omega))
            have hs3 := hs.keep_lt hown hu3 (bc_lt (by omega) (by omega))
            have hg3 := hg.keep_lt hgo hu3 (bc_lt (by omega) (by omega))
            clear hr hs hb hu3 hg
            go_wp2_with fail
            refine (take_none hr3).mono ?_
            rintro e w4 ⟨rfl, hr4, hu4⟩
            have hb4 := below_upd hb3 hu4 (Nat.le_refl _) (bc_ge (by omega) (by omega))
            have hs4 := hs3.keep_lt hown hu4 (bc_lt (by omega) (by omega))
            have hg4 := hg3.keep_lt hgo hu4 (bc_lt (by omega) (by omega))
            clear hr3 hs3 hb3 hu4 hg3
            go_wp2_with fail
            first
              | refine (put_shut hr4 1).mono ?_
              | refine (put_ok hr4 1 (by simp; omega)).mono ?_
            rintro e w5 ⟨rfl, hr5, hu5⟩
            have hb5 := below_upd hb4 hu5 (Nat.le_refl _) (bc_ge (by omega) (by omega))
            have hs5 := hs4.keep_lt hown hu5 (bc_lt (by omega) (by omega))
            have hg5 := hg4.keep_lt hgo hu5 (bc_lt (by omega) (by omega))
            clear hs4 hb4 hu5 hg4
            go_wp2_with fail
            refine (ints_any hg5.rd hs5.rd).mono ?_
            rintro e w6 ⟨rfl, d, rfl⟩
            have hdd : decide (p = p) = true := by simp
            rw [hdd]
            go_wp2_with fail
            refine (awake02 _).mono ?_
            rintro e w7 ⟨rfl, hb7⟩
            go_wp2
            go_ret
            exact ⟨rfl, (below_drewN hb5 d).trans (hb7.mono (below_drewN hb5 d).size)⟩

theorem walk (v : Value) (l : List Int) (most : Int) (shut : Bool) (w : World) (hv : Rd w 1 v l.length (ints l)) :
    Calls Try.prog 4 #[v, .int .i64 most, .bool shut] w fun e w' => e = .returned (.bool true) ∧ Below w.heap.size w w' := by
  by_cases h : most < 1 ∨ 1024 < most ∨ 200 < l.length
  · exact early v l most shut w hv h
  · obtain ⟨m, rfl⟩ := Int.eq_ofNat_of_zero_le (show 0 ≤ most by omega)
    exact main v l m shut w hv (by omega) (by omega) (by omega)

theorem own : ownKnob Try.prog.godebug = none := by kernel_rfl

set_option maxRecDepth 100000 in
theorem lifted (os : Os) (started : os.Started) (H : Type) (enc : TypeId × Value → H) :
    ReturnsInHanded {} Try.checked os 4 .any (Rows.ringOrderSpec.pre6 enc Try.prog Try.f4 Rows.ringOrderRow.domain false) (Rows.ringOrderSpec.post enc Try.prog Try.f4 false true false false) := by
  refine returnsInHanded_of_change (C := Try.checked) own started (by kernel_rfl) Try.func4
    (ChangeSpec.witness6 (enc := enc) (C := Try.checked) false ⟨#[], #[.slice none 0 0, .int .i64 0, .bool false], []⟩ 8 (by kernel_rfl) (by kernel_rfl) (by kernel_rfl) (by kernel_rfl)) ?_
  intro W base args ds gs before hval0 hW hcnd _
  have hval : ∀ (j : Nat) t v, Try.f4.params[j]? = some t → args[j]? = some v → Value.okWide Try.prog W .any base t v := hval0
  have hW' := hW
  obtain ⟨p, q, hA0, hV, rfl, hfz, hnd⟩ := hW
  have hA : DataW.TrodAll enc Try.prog W 0 (fun _ => true) true Try.f4.params.toList args.toList ds p := hA0
  rw [Try.params4] at hA hval
  obtain ⟨v0, vs0, d0, ds0, p0, q0, hargs, rfl, rfl, h0, r0⟩ := trodAll_cons hA
  obtain ⟨v1, vs1, d1, ds1, p1, q1, rfl, rfl, rfl, h1, r1⟩ := trodAll_cons r0
  obtain ⟨v2, vs2, d2, ds2, p2, q2, rfl, rfl, rfl, h2, r2⟩ := trodAll_cons r1
  obtain ⟨rfl, rfl, rfl⟩ := trodAll_nil r2
  obtain rfl : args = #[v0, v1, v2] := by cases args; simp_all
  obtain ⟨rfl, rfl⟩ := trodVars_none hV
  obtain ⟨l, hl, _⟩ := open_rd_ints Try.underlying42 Try.underlying3 (by kernel_rfl) (hval 0 42 v0 rfl rfl) h0
  obtain ⟨a1, rfl, rfl, rfl, w1⟩ := open_int Try.underlying3 (hval 1 3 v1 rfl rfl) h1
  obtain ⟨b2, rfl, rfl, rfl⟩ := open_bool Try.underlying4 (hval 2 4 v2 rfl rfl) h2
  refine (walk v0 l a1 b2 W hl).mono fun e W' ⟨he, hb⟩ => ?_
  subst he
  exact ⟨_, rfl, law_post (T := 4) (by kernel_rfl) (by kernel_rfl) rfl Try.underlying4 rfl rfl hW' hb⟩

theorem over : Rows.ringOrderRow.holds Try.pinned (OpenSpec.ofChange Rows.ringOrderSpec) :=
  OpenClaim.holds_of_wide 4 Try.f4 rfl rfl rfl rfl rfl rfl rfl ⟨rfl, rfl, rfl, rfl, rfl⟩ rfl rfl rfl rfl rfl (by kernel_rfl) Try.func4 (by kernel_rfl)
    (of_decide_eq_true (by kernel_rfl)) (by unfold Func.isWrapper; first | (rw [if_pos (by decide +kernel)]; kernel_rfl) | (rw [if_neg (by decide +kernel)]; exact ⟨rfl, rfl⟩))
    (fun os started H enc _ => lifted os started H enc)

/-- The statement. -/
theorem proved : Rows.RingOrderSaid :=
  over
end Go.Proofs.Ytolhlfahoooliaa.ringOrder
