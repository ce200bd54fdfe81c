/- A full ring goes on turning: things come round in their order, whatever they are and however often. No condition. -/
import Derived.Test.YtolhlfahoooliaaAwake02
import Derived.Test.YtolhlfahoooliaaLaw
import Derived.Test.YtolhlfahoooliaaRows
namespace Go.Proofs.Ytolhlfahoooliaa.ringTurns
open Go Go.RowKit Go.ChangeShapes Go.WideShapes Go.ChangeAt Go.Proofs.Ytolhlfahoooliaa Go.Conc

def rot (l : List Int) (k : Nat) : List Int := l.drop (k % l.length) ++ l.take (k % l.length)

theorem rot_zero (l : List Int) : rot l 0 = l := by simp [rot]
theorem rot_length (l : List Int) (k : Nat) : (rot l k).length = l.length := by
  simp [rot]
  rcases Nat.eq_zero_or_pos l.length with h | h
  · simp [h]
  · have := Nat.mod_lt k h; omega
theorem rot_step (l : List Int) (k : Nat) (h : k % l.length < l.length) : ∃ t, rot l k = l[k % l.length] :: t ∧ rot l (k + 1) = t ++ [l[k % l.length]] := by
  refine ⟨l.drop (k % l.length + 1) ++ l.take (k % l.length), ?_, ?_⟩
  · simp only [rot]; rw [List.drop_eq_getElem_cons h]; rfl
  · by_cases hr : k % l.length + 1 < l.length
    · have e : (k + 1) % l.length = k % l.length + 1 := by
        rw [Nat.add_mod, Nat.mod_eq_of_lt (show 1 < l.length by omega), Nat.mod_eq_of_lt hr]
      simp only [rot, e]
      rw [List.take_succ_eq_append_getElem h, List.append_assoc]
    · have hr' : k % l.length + 1 = l.length := by omega
      have e : (k + 1) % l.length = 0 := by
        have h2 := Nat.div_add_mod k l.length
        have h3 : k + 1 = l.length * (k / l.length + 1) := by rw [Nat.mul_add]; omega
        rw [h3]; exact Nat.mul_mod_right _ _
      simp only [rot, e]
      rw [hr', List.drop_length, List.nil_append, ← List.take_succ_eq_append_getElem h, hr']
      simp

theorem early (v : Value) (l : List Int) (turns : Int) (w : World) (hv : Rd w 1 v l.length (ints l)) (h : l.length < 1 ∨ 60 < l.length ∨ turns < 0 ∨ 200 < turns) :
    Calls Try.prog 5 #[v, .int .i64 turns] w fun e w' => e = .returned (.bool true) ∧ Below w.heap.size w w' := by
  have hle := hv.le
  unfold maxLen at hle
  obtain ⟨ao, c, rfl⟩ := hv.nil_iff
  clear hv
  by_cases h1 : l.length < 1
  · go_enter Try.func5, Try.ntmps5
    go_wp2_with fail
    refine (awake02 _).mono ?_
    rintro e w' ⟨rfl, hb⟩
    go_wp2
    go_ret
    exact ⟨rfl, hb⟩
  by_cases h2 : 60 < l.length
  · go_enter Try.func5, Try.ntmps5
    go_wp2_with fail
    refine (awake02 _).mono ?_
    rintro e w' ⟨rfl, hb⟩
    go_wp2
    go_ret
    exact ⟨rfl, hb⟩
  by_cases h3 : turns < 0
  · go_enter Try.func5, Try.ntmps5
    go_wp2_with fail
    refine (awake02 _).mono ?_
    rintro e w' ⟨rfl, hb⟩
    go_wp2
    go_ret
    exact ⟨rfl, hb⟩
  · have h4 : 200 < turns := by omega
    go_enter Try.func5, Try.ntmps5
    go_wp2_with fail
    refine (awake02 _).mono ?_
    rintro e w' ⟨rfl, hb⟩
    go_wp2
    go_ret
    exact ⟨rfl, hb⟩

set_option maxHeartbeats 1000000 in
theorem main (v : Value) (l : List Int) (t : Nat) (w : World) (hv : Rd w 1 v l.length (ints l)) (h1 : 1 ≤ l.length) (h2 : l.length ≤ 60) (ht : t ≤ 200) :
    Calls Try.prog 5 #[v, .int .i64 t] w fun e w' => e = .returned (.bool true) ∧ Below w.heap.size w w' := by
  obtain ⟨bl, off, c, rfl, hbl, hcells⟩ := hv.at (by omega)
  have HC : Hid (∀ k (h : k < l.length), w.cell? ⟨bl, off + k, none⟩ = some (.int .i64 l[k])) := fun k h => hcells k _ (get_ints h)
  clear hcells hv
  go_enter Try.func5, Try.ntmps5
  go_wp2_with fail
  refine (new_ok _ _ (by omega) (by omega)).mono ?_
  rintro e w1 ⟨rfl, hr1, hb1⟩
  rw [Int.toNat_natCast] at hr1
  go_wp2_with fail
  go_loopg [8] l.length (fun g i wr => ∃ k : Nat, k + g = l.length ∧ i = .int .i64 k ∧ RingAt 76 wr (w.heap.size + 1) w.heap.size l.length (ints (l.take k)) false ∧ Below w.heap.size w wr)
  case atStart => exact ⟨0, by omega, rfl, by simpa using hr1, hb1⟩
  case round =>
    obtain ⟨k, hk, rfl, hr, hb⟩ := hrel
    by_cases hlt : k < l.length
    · have hc : wr.cell? ⟨bl, off + k, none⟩ = some (.int .i64 l[k]) := (hb.cell hbl).trans (HC.out k hlt)
      go_wp2_with fail
      refine (put_ok hr _ (by simp; omega)).mono ?_
      rintro e w2 ⟨rfl, hr2, hu2⟩
      go_wp2
      go_roundg (gk - 1)
      case measure => omega
      case rel =>
        refine ⟨k + 1, by omega, by go_num, ?_, below_upd hb hu2 (Nat.le_refl _) (by rintro j (rfl | rfl) <;> omega)⟩
        rw [List.take_succ_eq_append_getElem hlt, ints_append]; exact hr2
    · obtain rfl : k = l.length := by omega
      rw [List.take_length] at hr
      have hr0 : RingAt 76 wr (w.heap.size + 1) w.heap.size l.length (ints (rot l 0)) false := by rw [rot_zero]; exact hr
      clear hr hr1 hb1
      go_wp2_with fail
      obtain ⟨wo, hwo⟩ : ∃ wo : World, wo = wr := ⟨_, rfl⟩
      subst hwo
      go_loopg [9] t (fun g i wr => ∃ k : Nat, k + g = t ∧ i = .int .i64 k ∧ RingAt 76 wr (w.heap.size + 1) w.heap.size l.length (ints (rot l k)) false ∧ Below w.heap.size w wr)
      case atStart => exact ⟨0, by omega, rfl, hr0, hb⟩
      case round =>
        clear hr0 hb
        obtain ⟨k, hk, rfl, hr, hb⟩ := hrel
        have hml := Nat.mod_lt k (show 0 < l.length by omega)
        obtain ⟨tl, e1, e2⟩ := rot_step l k hml
        have hc : wr.cell? ⟨bl, off + k % l.length, none⟩ = some (.int .i64 l[k % l.length]) := (hb.cell hbl).trans (HC.out _ hml)
        have hlen : ¬ (ints (rot l k)).length < l.length := by simp [rot_length]
        have E2 := Lib.hid e2; clear e2
        by_cases hlt : k < t
        · go_wp2_with fail
          refine (room_any hr (by omega)).mono ?_
          rintro e w2 ⟨rfl, d, rfl⟩
          have hro : roomOf false (ints (rot l k)) l.length = 0 := by simp [roomOf, rot_length]
          rw [hro]
          have hr2 := hr.keep ((Upd.refl (fun _ => False) wr).drewN d) (fun h => h) (fun h => h)
          have hb2 := below_drewN hb d
          have hc2 : (wr.drewN d).cell? ⟨bl, off + k % l.length, none⟩ = some (.int .i64 l[k % l.length]) := hc
          clear hr hb hc hro
          obtain ⟨wp, hwp⟩ : ∃ wp : World, wp = wr.drewN d := ⟨_, rfl⟩
          rw [← hwp] at hr2 hb2 hc2 ⊢
          clear hwp
          go_wp2_with fail
          refine (put_full hr2 7 hlen).mono ?_
          rintro e w3 ⟨rfl, hr3, hu3⟩
          have hb3 := below_upd hb2 hu3 (Nat.le_refl _) (by rintro j (rfl | rfl) <;> omega)
          clear hr2 hu3 hc2 hb2 wp
          rw [e1, ints_cons] at hr3
          go_wp2_with fail
          refine (take_some hr3).mono ?_
          rintro e w4 ⟨rfl, hr4, hu4⟩
          have hb4 := below_upd hb3 hu4 (Nat.le_refl _) (by rintro j (rfl | rfl) <;> omega)
          have hc4 : w4.cell? ⟨bl, off + k % l.length, none⟩ = some (.int .i64 l[k % l.length]) := (hb4.cell hbl).trans (HC.out _ hml)
          clear hr3 hu4 hb3 w3
          go_wp2_with fail
          refine (put_ok hr4 _ (by have := rot_length l k; rw [e1] at this; simp at this ⊢; omega)).mono ?_
          rintro e w5 ⟨rfl, hr5, hu5⟩
          have hb5 := below_upd hb4 hu5 (Nat.le_refl _) (by rintro j (rfl | rfl) <;> omega)
          go_wp2
          go_roundg (gk - 1)
          case measure => omega
          case rel =>
            refine ⟨k + 1, by omega, by go_num, ?_, hb5⟩
            rw [E2.out, ints_append]; exact hr5
        · obtain rfl : k = t := by omega
          rw [e1, ints_cons] at hr
          go_wp2_with fail
          refine (take_some hr).mono ?_
          rintro e w2 ⟨rfl, hr2, hu2⟩
          have hb2 := below_upd hb hu2 (Nat.le_refl _) (by rintro j (rfl | rfl) <;> omega)
          have hc2 : w2.cell? ⟨bl, off + k % l.length, none⟩ = some (.int .i64 l[k % l.length]) := (hb2.cell hbl).trans (HC.out _ hml)
          clear hr hu2 hb hc
          have htl : tl.length + 1 = l.length := by have := rot_length l k; rw [e1] at this; simpa using this
          have HTL := Lib.hid htl
          clear htl
          have hbl2 : ((tl.length : Int) == (l.length : Int) - 1) = true := by have := HTL.out; simp; omega
          go_wp2_with fail
          refine (len_any hr2).mono ?_
          rintro e w3 ⟨rfl, rfl⟩
          rw [length_ints]
          go_wp2_with fail
          refine (awake02 _).mono ?_
          rintro e w4 ⟨rfl, hb4⟩
          go_wp2
          go_ret
          exact ⟨rfl, hb2.trans (hb4.mono hb2.size)⟩

theorem walk (v : Value) (l : List Int) (t : Int) (w : World) (hv : Rd w 1 v l.length (ints l)) :
    Calls Try.prog 5 #[v, .int .i64 t] w fun e w' => e = .returned (.bool true) ∧ Below w.heap.size w w' := by
  by_cases h : l.length < 1 ∨ 60 < l.length ∨ t < 0 ∨ 200 < t
  · exact early v l t w hv h
  · obtain ⟨k, rfl⟩ := Int.eq_ofNat_of_zero_le (show 0 ≤ t by omega)
    exact main v l k w hv (by omega) (by omega) (by omega)
theorem own : ownKnob Try.prog.godebug = none := by kernel_rfl

set_option maxRecDepth 100000 in
theorem lifted (os : Os) (started : os.Started) (H : Type) (enc : TypeId × Value → H) :
    ReturnsInHanded {} Try.checked os 5 .any (Rows.ringTurnsSpec.pre6 enc Try.prog Try.f5 Rows.ringTurnsRow.domain false) (Rows.ringTurnsSpec.post enc Try.prog Try.f5 false true false false) := by
  refine returnsInHanded_of_change (C := Try.checked) own started (by kernel_rfl) Try.func5
    (ChangeSpec.witness6 (enc := enc) (C := Try.checked) false ⟨#[], #[.slice none 0 0, .int .i64 0], []⟩ 8 (by kernel_rfl) (by kernel_rfl) (by kernel_rfl) (by kernel_rfl)) ?_
  intro W base args ds gs before hval0 hW hcnd _
  have hval : ∀ (j : Nat) t v, Try.f5.params[j]? = some t → args[j]? = some v → Value.okWide Try.prog W .any base t v := hval0
  have hW' := hW
  obtain ⟨p, q, hA0, hV, rfl, hfz, hnd⟩ := hW
  have hA : DataW.TrodAll enc Try.prog W 0 (fun _ => true) true Try.f5.params.toList args.toList ds p := hA0
  rw [Try.params5] at hA hval
  obtain ⟨v0, vs0, d0, ds0, p0, q0, hargs, rfl, rfl, h0, r0⟩ := trodAll_cons hA
  obtain ⟨v1, vs1, d1, ds1, p1, q1, rfl, rfl, rfl, h1, r1⟩ := trodAll_cons r0
  obtain ⟨rfl, rfl, rfl⟩ := trodAll_nil r1
  obtain rfl : args = #[v0, v1] := by cases args; simp_all
  obtain ⟨rfl, rfl⟩ := trodVars_none hV
  obtain ⟨l, hl, _⟩ := open_rd_ints Try.underlying42 Try.underlying3 (by kernel_rfl) (hval 0 42 v0 rfl rfl) h0
  obtain ⟨a1, rfl, rfl, rfl, w1⟩ := open_int Try.underlying3 (hval 1 3 v1 rfl rfl) h1
  refine (walk v0 l a1 W hl).mono fun e W' ⟨he, hb⟩ => ?_
  subst he
  exact ⟨_, rfl, law_post (T := 4) (by kernel_rfl) (by kernel_rfl) rfl Try.underlying4 rfl rfl hW' hb⟩

theorem over : Rows.ringTurnsRow.holds Try.pinned (OpenSpec.ofChange Rows.ringTurnsSpec) :=
  OpenClaim.holds_of_wide 5 Try.f5 rfl rfl rfl rfl rfl rfl rfl ⟨rfl, rfl, rfl, rfl, rfl⟩ rfl rfl rfl rfl rfl (by kernel_rfl) Try.func5 (by kernel_rfl)
    (of_decide_eq_true (by kernel_rfl)) (by unfold Func.isWrapper; first | (rw [if_pos (by decide +kernel)]; kernel_rfl) | (rw [if_neg (by decide +kernel)]; exact ⟨rfl, rfl⟩))
    (fun os started H enc _ => lifted os started H enc)

/-- The statement. -/
theorem proved : Rows.RingTurnsSaid :=
  over
end Go.Proofs.Ytolhlfahoooliaa.ringTurns
