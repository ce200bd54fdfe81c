/- The code's slots and the document's answer alike, whatever is played. -/
import Derived.Test.YtolhlfahoooliaaDoorOps08
import Derived.Test.YtolhlfahoooliaaDoorRef08
import Derived.Test.YtolhlfahoooliaaDoorCards
import Derived.Test.YtolhlfahoooliaaDoorTie
import Derived.Deep.RegionHeld3
import Derived.ProofKit
import Derived.OpenShut
import Derived.Deep.DeepHandedRow
import Derived.Lib.LaidTab
namespace Go.Proofs.YtolhlfahoooliaaDoor.slotsPlays
open Go Go.RowKit Go.ChangeShapes Go.WideShapes Go.ChangeAt Go.Proofs.YtolhlfahoooliaaDoor

set_option maxRecDepth 100000 in
theorem early (n : Int) (v : Value) (l : List Op8) (w : World) (hv : Rd w 3 v l.length (ops8 l)) (ht : Tur w) (h : n < 1 ∨ 40 < n) :
    Calls Tryd.prog 6 #[.int .i64 n, v] w fun e w' => e = .returned (.bool true) ∧ Below w.heap.size w w' := by
  have HT := Lib.hid ht; clear ht
  have hle := hv.le
  unfold maxLen at hle
  obtain ⟨ao, c, rfl⟩ := hv.nil_iff
  clear hv
  by_cases h1 : n < 1
  · clear h
    go_enter Tryd.func6, Tryd.ntmps6
    go_wp2_with fail
    refine (snew_bad _ _ (.inl h1)).mono ?_
    rintro e w1 ⟨rfl, rfl⟩
    go_wp2_with fail
    refine (awake08 _ HT.out).mono ?_
    rintro e w3 ⟨rfl, hb⟩
    go_wp2
    go_ret
    exact ⟨rfl, hb⟩
  · by_cases h2 : n ≤ 1024
    · have h3 : 40 < n := by omega
      clear h
      go_enter Tryd.func6, Tryd.ntmps6
      go_wp2_with fail
      refine (awake08 _ HT.out).mono ?_
      rintro e w3 ⟨rfl, hb⟩
      go_wp2
      go_ret
      exact ⟨rfl, hb⟩
    · have h3 : 1024 < n := by omega
      clear h
      go_enter Tryd.func6, Tryd.ntmps6
      go_wp2_with fail
      refine (snew_bad _ _ (.inr h3)).mono ?_
      rintro e w1 ⟨rfl, rfl⟩
      go_wp2_with fail
      refine (awake08 _ HT.out).mono ?_
      rintro e w3 ⟨rfl, hb⟩
      go_wp2
      go_ret
      exact ⟨rfl, hb⟩

set_option maxRecDepth 100000 in
theorem long (n : Nat) (v : Value) (l : List Op8) (w : World) (hv : Rd w 3 v l.length (ops8 l)) (ht : Tur w) (h1 : 1 ≤ n) (h2 : n ≤ 40) (h3 : 100 < l.length) :
    Calls Tryd.prog 6 #[.int .i64 n, v] w fun e w' => e = .returned (.bool true) ∧ Below w.heap.size w w' := by
  have HT := Lib.hid ht; clear ht
  have hle := hv.le
  unfold maxLen at hle
  obtain ⟨ao, c, rfl⟩ := hv.nil_iff
  clear hv
  go_enter Tryd.func6, Tryd.ntmps6
  go_wp2_with fail
  refine (snew_ok n _ h1 (by omega)).mono ?_
  rintro e w1 ⟨rfl, hs1, hb1, hz1⟩
  have ht1 := HT.out.below hb1
  clear hs1
  go_wp2_with fail
  refine (awake08 _ ht1).mono ?_
  rintro e w3 ⟨rfl, hb⟩
  go_wp2
  go_ret
  exact ⟨rfl, hb1.trans (hb.mono hb1.size)⟩

set_option maxRecDepth 100000 in
set_option maxHeartbeats 4000000 in
theorem main (n : Nat) (v : Value) (l : List Op8) (w : World) (hv : Rd w 3 v l.length (ops8 l)) (ht : Tur w) (h1 : 1 ≤ n) (h2 : n ≤ 40) (h3 : l.length ≤ 100) :
    Calls Tryd.prog 6 #[.int .i64 n, v] w fun e w' => e = .returned (.bool true) ∧ Below w.heap.size w w' := by
  have hg : 0 < w.heap.size := ht.lt
  have side : ∀ k, ownS (.slice (some ⟨w.heap.size, 0, none⟩) n n) k → w.heap.size ≤ k := by intro k hk; simp [ownS, Value.ownBlock] at hk; omega
  have nt : Hid (¬ ownS (.slice (some ⟨w.heap.size, 0, none⟩) n n) 0) := fun h => by have := side _ h; omega
  have nS : Hid (∀ j, w.heap.size + 1 < j → ¬ ownS (.slice (some ⟨w.heap.size, 0, none⟩) n n) j) := fun j hj h => by simp [ownS, Value.ownBlock] at h; omega
  have S := Lib.hid side
  have HT := Lib.hid ht
  have HV := Lib.hid hv
  obtain ⟨ao, c, rfl⟩ := hv.nil_iff
  clear side ht hv
  go_enter Tryd.func6, Tryd.ntmps6
  go_wp2_with fail
  refine (snew_ok n _ h1 (by omega)).mono ?_
  rintro e w1 ⟨rfl, hs1, hb1, hz1⟩
  have ht1 := HT.out.below hb1
  go_wp2_with fail
  refine (refNew_ok n _ (by omega)).mono ?_
  rintro e w2 ⟨bR, vR, rfl, hr2, hlb, hlv, hb2⟩
  have hbb2 := hb1.trans (hb2.mono hb1.size)
  have hs2 := hs1.new (Upd.of_below hb2)
  have ht2 := ht1.below hb2
  rw [hz1] at hlb hlv
  have nR : Hid (∀ j, j < w.heap.size + 2 → ¬ ownS vR j) := fun j hj h => by have := hlv j h; omega
  have SR : Hid (∀ j, ownS vR j → w.heap.size ≤ j) := fun j h => by have := hlv j h; omega
  clear hs1 hb1 hz1 ht1 hb2
  go_wp2_with fail
  go_loopg [8] l.length (fun g i wr => ∃ (k : Nat) (xs : List Int), k + g = l.length ∧ i = .int .i64 k ∧ xs.length = n ∧ SlotsAt TS wr (w.heap.size + 1) (.slice (some ⟨w.heap.size, 0, none⟩) n n) xs ∧ SlotsAt TR wr bR vR xs ∧ Below w.heap.size w wr ∧ Tur wr)
  case atStart => exact ⟨0, _, by omega, rfl, by simp, hs2, hr2, hbb2, ht2⟩
  case round =>
    clear hs2 hr2 hbb2 ht2 w1 w2
    obtain ⟨k, xs, hk, rfl, hxn, hs, hr, hb, ht⟩ := hrel
    by_cases hlt : k < l.length
    · obtain ⟨bl, off, c', hvv, hbl, hcells⟩ := HV.out.at (by omega)
      cases hvv
      obtain ⟨hc0, hc1, hc2⟩ := ops8_at hlt
      replace hc0 := (hb.cell (p := ⟨bl, off + k * 3, none⟩) hbl).trans (hcells _ _ hc0)
      replace hc1 := (hb.cell (p := ⟨bl, off + (k * 3 + 1), none⟩) hbl).trans (hcells _ _ hc1)
      replace hc2 := (hb.cell (p := ⟨bl, off + (k * 3 + 2), none⟩) hbl).trans (hcells _ _ hc2)
      clear hcells
      rw [show off + (k * 3 + 1) = off + k * 3 + 1 from rfl] at hc1
      rw [show off + (k * 3 + 2) = off + k * 3 + 2 from rfl] at hc2
      obtain ⟨⟨al, sl, st⟩, hop⟩ : ∃ o, o = l[k] := ⟨_, rfl⟩
      rw [← hop] at hc0 hc1 hc2
      simp only at hc0 hc1 hc2
      clear hop
      obtain ⟨go, hgo⟩ : ∃ x, x = gk := ⟨_, rfl⟩
      have hk' : k + go = l.length := by omega
      rcases Bool.eq_false_or_eq_true al with rfl | rfl
      case' _ =>
        go_wp2_with fail
        refine (alloc_any hs).mono ?_
        rintro e w3 ⟨rfl, hs3, hu3⟩
        have hb3 := below_upd hb hu3 (Nat.le_refl _) S.out
        have ht3 := ht.keep hu3 nt.out
        have hr3 := hr.keep hu3 (nS.out _ (by omega)) (fun g hg => nS.out _ (by have := hlv g hg; omega))
        clear hs hr hb ht hu3 hc0 hc1 hc2
        go_wp2_with fail
        refine (refAlloc_any hr3).mono ?_
        rintro e w4 ⟨rfl, hr4, hu4⟩
        have hyn : (allocList xs).length = n := by rw [allocList_len]; exact hxn
        have hb4 := below_upd hb3 hu4 (Nat.le_refl _) SR.out
        have ht4 := ht3.keep hu4 (nR.out _ (by omega))
        have hs4 := hs3.keep hu4 (nR.out _ (by omega)) (fun g hg => nR.out _ (by simp [Value.ownBlock] at hg; omega))
        clear hs3 hr3 hb3 ht3 hu4
        go_wp2_with fail
        obtain ⟨ys, hye⟩ : ∃ ys, ys = allocList xs := ⟨_, rfl⟩
        rw [← hye] at hs4 hr4 hyn
        clear hye
        obtain ⟨wa, rfl⟩ : ∃ wa : World, wa = w4 := ⟨_, rfl⟩
      rotate_left
      case' _ =>
        have hsd := hs.new ((Upd.refl _ wr).drew)
        have htd := ht.keep ((Upd.refl (fun _ => False) wr).drew) (fun h => h)
        have hrd := hr.new ((Upd.refl _ wr).drew)
        have hblS : Hid (¬ ownS (.slice (some ⟨w.heap.size, 0, none⟩) n n) bl) := fun h => by have := S.out _ h; omega
        have hblw : Hid (bl < wr.drew.heap.size) := Nat.lt_of_lt_of_le hbl hb.size
        go_wp2
        go_region_held3 (fun W => W.cell? ⟨bl, off + k * 3 + 1, none⟩ = some (.int .i64 sl) ∧ W.cell? ⟨bl, off + k * 3 + 2, none⟩ = some (.int .i64 st)) (go_keep)
          (first
            | (go_at_call 14; refine (turn_any hsd htd sl st).mono ?_; rintro e w3 ⟨rfl, hs3, hu3⟩; have k1 : w3.cell? ⟨bl, off + k * 3 + 1, none⟩ = some (.int .i64 sl) := (hu3.cellAt hblw.out hblS.out).trans hc1; have k2 : w3.cell? ⟨bl, off + k * 3 + 2, none⟩ = some (.int .i64 st) := (hu3.cellAt hblw.out hblS.out).trans hc2; have hr3 := hrd.keep hu3 (nS.out _ (by omega)) (fun g hg => nS.out _ (by have := hlv g hg; omega)))
            | (go_at_call 21; refine (refTurn_any hr3 sl st).mono ?_; rintro e w4 ⟨rfl, hr4, hu4⟩; have k3 : w4.cell? ⟨bl, off + k * 3 + 1, none⟩ = some (.int .i64 sl) := (hu4.cellAt (Nat.lt_of_lt_of_le hblw.out hu3.size) (nR.out _ (by omega))).trans k1; have k4 : w4.cell? ⟨bl, off + k * 3 + 2, none⟩ = some (.int .i64 st) := (hu4.cellAt (Nat.lt_of_lt_of_le hblw.out hu3.size) (nR.out _ (by omega))).trans k2))
        have hyn : (turnList xs sl st).length = n := by rw [turnList_len]; exact hxn
        have hb3 := below_upd hb (((Upd.refl _ wr).drew).trans hu3) (Nat.le_refl _) S.out
        have hb4 := below_upd hb3 hu4 (Nat.le_refl _) SR.out
        have ht4 := (htd.keep hu3 nt.out).keep hu4 (nR.out _ (by omega))
        have hs4 := hs3.keep hu4 (nR.out _ (by omega)) (fun g hg => nR.out _ (by simp [Value.ownBlock] at hg; omega))
        clear hs hr hb ht hu3 hc0 hc1 hc2 hsd htd hrd k1 k2 k3 k4 hr3 hs3 hb3 hu4
        go_wp2_with fail
        obtain ⟨ys, hye⟩ : ∃ ys, ys = turnList xs sl st := ⟨_, rfl⟩
        rw [← hye] at hs4 hr4 hyn
        clear hye
        obtain ⟨wa, rfl⟩ : ∃ wa : World, wa = w4 := ⟨_, rfl⟩
      all_goals
        go_loopg [13] 7 (fun g i wx => ∃ m : Nat, m + g = 7 ∧ i = .int .i64 ((m : Int) - 1) ∧ SlotsAt TS wx (w.heap.size + 1) (.slice (some ⟨w.heap.size, 0, none⟩) n n) ys ∧ SlotsAt TR wx bR vR ys ∧ Below w.heap.size w wx ∧ Tur wx)
        case atStart => exact ⟨0, by omega, rfl, hs4, hr4, hb4, ht4⟩
        case round =>
          clear hs4 hr4 hb4 ht4
          obtain ⟨m, hm, rfl, hs, hr, hb, ht⟩ := hrel
          by_cases hm7 : m < 7
          · obtain ⟨q, hq⟩ : ∃ q : Int, q = (m : Int) - 1 := ⟨_, rfl⟩
            have hqr : -1 ≤ q ∧ q ≤ 5 := by omega
            have hql : Hid ((nats (pos ys q)).length = (pos ys q).length) := by show _ = _; simp [nats]
            have hpl : (pos ys q).length ≤ 40 := by have := posTo_len ys q ys.length; show (posTo ys q ys.length).length ≤ 40; omega
            rw [← hq]
            have HQ := Lib.hid hq
            clear hq
            go_wp2_with fail
            refine (lawAll_any hs q (by omega)).mono ?_
            rintro e w5 ⟨gv, rfl, hg5, hgf, hb5⟩
            have hbb5 := hb.trans (hb5.mono hb.size)
            have hs5 := hs.new (Upd.of_below hb5)
            have hr5 := hr.new (Upd.of_below hb5)
            have ht5 := ht.below hb5
            clear hs hr hb ht hb5
            obtain ⟨o1, c1, rfl⟩ := hg5.rd.nil_iff
            go_wp2_with fail
            refine (refAll_any hr5 q).mono ?_
            rintro e w6 ⟨rv, rfl, hv6, hvf, hb6⟩
            have hbb6 := hbb5.trans (hb6.mono hbb5.size)
            have hs6 := hs5.new (Upd.of_below hb6)
            have hr6 := hr5.new (Upd.of_below hb6)
            have ht6 := ht5.below hb6
            have hg6 := hg5.keep (Upd.of_below (S := fun _ => False) hb6) (fun _ _ h => h)
            clear hs5 hr5 hbb5 ht5 hb6 hg5
            go_wp2_with fail
            refine (ints_any (l := nats (pos ys q)) (m := nats (pos ys q)) (by rw [hql.out]; exact hg6.rd) (by rw [hql.out]; exact hv6.rd)).mono ?_
            rintro e w7 ⟨rfl, d, rfl⟩
            rw [show decide (nats (pos ys q) = nats (pos ys q)) = true by simp]
            have hd : Upd (fun _ => False) w6 (w6.drewN d) := (Upd.refl _ _).drewN d
            have hs7 := hs6.new hd
            have hr7 := hr6.new hd
            have ht7 := ht6.keep hd (fun h => h)
            have hb7 := below_drewN hbb6 d
            clear hs6 hr6 hbb6 ht6 hg6 hv6 hd
            go_wp2_with fail
            refine (count_any hs7 q (by omega)).mono ?_
            rintro e w8 ⟨rfl, hb8⟩
            have hbb8 := hb7.trans (hb8.mono hb7.size)
            have hs8 := hs7.new (Upd.of_below hb8)
            have hr8 := hr7.new (Upd.of_below hb8)
            have ht8 := ht7.below hb8
            clear hs7 hr7 hb7 ht7 hb8
            go_wp2
            go_roundg (gk - 1)
            case measure => omega
            case rel => exact ⟨m + 1, by omega, by have := HQ.out; go_num, hs8, hr8, hbb8, ht8⟩
          · have HS := Lib.hid hs
            have HR := Lib.hid hr
            have HB := Lib.hid hb
            clear hs hr hb
            go_wp2
            go_roundg (go - 1)
            case measure => omega
            case rel => exact ⟨k + 1, ys, by omega, by go_num, hyn, HS.out, HR.out, HB.out, ht⟩
    · have HB := Lib.hid hb
      clear hr hb
      go_wp2_with fail
      refine (slen_any hs).mono ?_
      rintro e w4 ⟨rfl, rfl⟩
      clear hs
      go_wp2_with fail
      refine (awake08 _ ht).mono ?_
      rintro e w5 ⟨rfl, hb5⟩
      go_wp2
      go_ret
      exact ⟨rfl, HB.out.trans (hb5.mono HB.out.size)⟩

theorem walk (n : Int) (v : Value) (l : List Op8) (w : World) (hv : Rd w 3 v l.length (ops8 l)) (ht : Tur w) :
    Calls Tryd.prog 6 #[.int .i64 n, v] w fun e w' => e = .returned (.bool true) ∧ Below w.heap.size w w' := by
  by_cases h : n < 1 ∨ 40 < n
  · exact early n v l w hv ht h
  · obtain ⟨m, rfl⟩ := Int.eq_ofNat_of_zero_le (show 0 ≤ n by omega)
    by_cases h3 : 100 < l.length
    · exact long m v l w hv ht (by omega) (by omega) h3
    · exact main m v l w hv ht (by omega) (by omega) (by omega)

theorem own : ownKnob Tryd.prog.godebug = none := by kernel_rfl

theorem table {W : World} (h : laidMetH Tryd.prog Rows.slotsPlaysRow.laid W) : Tur W := by
  have ht : Lib.TabIs Tryd.prog W "lavabo/slots.turns" .i64 [2, 28, 24, 17, 0] := Lib.tabIs_of_head (rest := []) gTab gTabType tabArr Tryd.underlying3 (by kernel_rfl) (by kernel_rfl) h
  exact ⟨ht.cell gTab 0 (by decide), ht.cell gTab 1 (by decide), ht.cell gTab 2 (by decide), ht.cell gTab 3 (by decide), ht.cell gTab 4 (by decide)⟩

theorem contract (H : Type) (enc : TypeId × Value → H) (W : World) (base : Nat) (args : Array Value) (ds gs : List (DataW H)) (before : List MemPlace)
    (hval : ∀ (j : Nat) t v, Tryd.f6.params[j]? = some t → args[j]? = some v → Value.okWide Tryd.prog W .any base t v)
    (hW : DataW.Whole enc Tryd.prog Tryd.f6.params.toList Rows.slotsPlaysSpec.vars false W args.toList ds gs before) (hL : laidMetH Tryd.prog Rows.slotsPlaysRow.laid W) :
    Calls Tryd.prog 6 args W fun e W' => ∃ v, e = .returned v ∧ Rows.slotsPlaysSpec.post enc Tryd.prog Tryd.f6 false true false false W args v W' := by
  have hW' := hW
  obtain ⟨p, q, hA0, hV, rfl, hfz, hnd⟩ := hW
  have hA : DataW.TrodAll enc Tryd.prog W 0 (fun _ => true) true Tryd.f6.params.toList args.toList ds p := hA0
  rw [Tryd.params6] at hA hval
  obtain ⟨v0, vs0, d0, ds0, p0, q0, hargs, rfl, rfl, h0, r0⟩ := trodAll_cons hA
  obtain ⟨v1, vs1, d1, ds1, p1, q1, rfl, rfl, rfl, h1, r1⟩ := trodAll_cons r0
  obtain ⟨rfl, rfl, rfl⟩ := trodAll_nil r1
  obtain rfl : args = #[v0, v1] := by cases args; simp_all
  obtain ⟨rfl, rfl⟩ := trodVars_none hV
  obtain ⟨a0, rfl, rfl, rfl, w0⟩ := open_int Tryd.underlying3 (hval 0 3 v0 rfl rfl) h0
  obtain ⟨l, hl, _⟩ := open_rd op8C (fun _ => True) (k := 3) (fun _ => rfl) (by decide) Tryd.underlying24 cells30 op8El (hval 1 24 v1 rfl rfl) h1
  refine (walk a0 v1 l W hl (table hL)).mono fun e W' ⟨he, hb⟩ => ?_
  subst he
  exact ⟨_, rfl, law_post (T := 4) (by kernel_rfl) (by kernel_rfl) rfl Tryd.underlying4 rfl rfl hW' hb⟩

noncomputable def laidWorld (os : Os) : World :=
  { World.holding Tryd.prog os ⟨#[], #[], []⟩ with heap := (World.holding Tryd.prog os ⟨#[], #[], []⟩).heap.modify 0 fun
      | .cells _ t frozen => .cells #[.int .i64 2, .int .i64 28, .int .i64 24, .int .i64 17, .int .i64 0] t frozen
      | o => o }
theorem laid_met (os : Os) : laidMet Tryd.prog Rows.slotsPlaysRow.laid ((laidWorld os).forCall (fun _ _ => 0) ⟨#[], #[.int .i64 0, .slice none 0 0], []⟩).memory :=
  laidMet_of_run' 8 (by kernel_rfl) (by kernel_rfl)
theorem reads (os : Os) {H : Type} (enc : TypeId × Value → H) : ∃ places, DataW.whole enc Tryd.prog ((laidWorld os).forCall (fun _ _ => 0) ⟨#[], #[.int .i64 0, .slice none 0 0], []⟩).memory Tryd.f6.params.toList Rows.slotsPlaysSpec.vars false (#[.int .i64 0, .slice none 0 0] : Array Value).toList 8 = some ([.lit (.int .i64 0), .nil], [], places) :=
  ⟨[], by kernel_rfl⟩

set_option maxRecDepth 100000 in
theorem lifted (os : Os) (started : os.Started) (H : Type) (enc : TypeId × Value → H) (F : Stop.Interp) :
    ReturnsInHanded {} Tryd.checked os 6 .any ((OpenSpec.ofChange Rows.slotsPlaysSpec).preRow enc Tryd.prog Tryd.f6 Rows.slotsPlaysRow.domain false Rows.slotsPlaysRow.laid) (((OpenSpec.ofChange Rows.slotsPlaysSpec).at F).post enc Tryd.prog Tryd.f6 false true false false) := by
  obtain ⟨places, hx⟩ := reads os enc
  refine returnsInHanded_of_row (C := Tryd.checked) (s := OpenSpec.ofChange Rows.slotsPlaysSpec) own started (by kernel_rfl) Tryd.func6
    (witness_row_at (enc := enc) (C := Tryd.checked) false (laidWorld os) #[.int .i64 0, .slice none 0 0] rfl (by kernel_rfl) (by kernel_rfl) (by kernel_rfl)
      (OpenSpec.preRow_of_cond 8 hx (by kernel_rfl) (fun k hk => by cases hk) (by kernel_rfl) (laid_met os))) ?_
  intro W base args ds gs before hval hW _ _ _ hL _ _
  exact contract H enc W base args ds gs before hval hW hL

theorem said : Rows.SlotsPlaysSaid :=
  OpenClaim.holds_of_cond 6 Tryd.f6 rfl rfl rfl rfl rfl rfl rfl ⟨rfl, rfl, rfl, rfl, rfl⟩ rfl rfl rfl rfl rfl (by kernel_rfl) Tryd.func6 (by kernel_rfl)
    (of_decide_eq_true (by kernel_rfl)) (by unfold Func.isWrapper; first | (rw [if_pos (by decide +kernel)]; kernel_rfl) | (rw [if_neg (by decide +kernel)]; exact ⟨rfl, rfl⟩))
    (fun os started H enc _ F => by rw [OpenClaim.pre_eq_preRow]; exact lifted os started H enc F)

theorem plain (f : FuncId) (fn : Func) (hf : Tryd.pinned.checked.prog.funcNamed "lavabo/lavabolaw08.SlotsPlays" = some f) (hfn : Tryd.pinned.checked.prog.funcs[f]? = some fn) :
    false = Tryd.pinned.checked.prog.looks [] ∧ ∀ (j : Nat) t, fn.params[j]? = some t → Tryd.pinned.checked.prog.wantsStandIn t = false := by
  obtain rfl : f = 6 := Option.some.inj ((show Tryd.prog.funcNamed "lavabo/lavabolaw08.SlotsPlays" = some 6 by kernel_rfl).symm.trans hf) |>.symm
  obtain rfl : fn = Tryd.f6 := (Option.some.inj (Tryd.func6.symm.trans hfn)).symm
  refine ⟨by kernel_rfl, fun j t ht => ?_⟩
  have hall : Tryd.f6.params.toList.all (fun t => Tryd.prog.wantsStandIn t == false) = true := by kernel_rfl
  have hm : t ∈ Tryd.f6.params.toList := by simpa using Array.mem_of_getElem? ht
  exact eq_of_beq (List.all_eq_true.1 hall t hm)

/-- THE CARD. -/
theorem card : Rows.SlotsPlaysCardSaid :=
  Claim7.holds_tied_plain_at .later [] _ _ _ _ said (fun _ h => by cases h) (by kernel_rfl) (fun _ h => by cases h) slotsPlays_row_tie rfl ⟨rfl, rfl⟩ (by kernel_rfl) rfl plain (by kernel_rfl)
end Go.Proofs.YtolhlfahoooliaaDoor.slotsPlays
