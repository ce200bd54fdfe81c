/- What is taken is the first that was free; nothing else turns. -/
import Derived.Test.YtolhlfahoooliaaDoorOps08
import Derived.Test.YtolhlfahoooliaaDoorCards
import Derived.Test.YtolhlfahoooliaaDoorTie
import Derived.Deep.RegionHeld3
import Derived.ProofKit
import Derived.OpenShut
import Derived.Deep.DeepHandedRow
import Derived.Lib.LaidTab
namespace Go.Proofs.YtolhlfahoooliaaDoor.slotsTakes
open Go Go.RowKit Go.ChangeShapes Go.WideShapes Go.ChangeAt Go.Proofs.YtolhlfahoooliaaDoor

theorem pos_head {xs : List Int} (h : free xs < xs.length) : ∃ rest, pos xs 0 = free xs :: rest := by
  have h0 : ∀ k, k ≤ free xs → posTo xs 0 k = [] := by
    intro k
    induction k with
    | zero => intro _; rfl
    | succ k ih =>
      intro hk
      rw [posTo_miss, ih (by omega)]
      have := List.not_of_lt_findIdx (p := (· == 0)) (xs := xs) (i := k) (by show k < free xs; omega)
      have hl : k < xs.length := by have := free_le xs; omega
      simpa [hl] using this
  have h1 : posTo xs 0 (free xs + 1) = [free xs] := by
    rw [posTo_hit, h0 _ (Nat.le_refl _)]; rfl
    have hz : (xs[free xs] == 0) = true := List.findIdx_getElem (p := (· == 0)) (xs := xs) (w := h)
    simpa [h] using hz
  obtain ⟨t, ht⟩ := posTo_prefix xs 0 (show free xs + 1 ≤ xs.length by omega)
  exact ⟨t, by show posTo xs 0 xs.length = _; rw [← ht, h1]; rfl⟩
theorem pos_none {xs : List Int} (h : ¬ free xs < xs.length) : pos xs 0 = [] := by
  have h0 : ∀ k, k ≤ free xs → k ≤ xs.length → posTo xs 0 k = [] := by
    intro k
    induction k with
    | zero => intro _ _; rfl
    | succ k ih =>
      intro hk hl
      rw [posTo_miss, ih (by omega) (by omega)]
      have := List.not_of_lt_findIdx (p := (· == 0)) (xs := xs) (i := k) (by show k < free xs; omega)
      have hl : k < xs.length := by omega
      simpa [hl] using this
  exact h0 _ (by omega) (Nat.le_refl _)

theorem early (n : Int) (v : Value) (l : List Op8) (w : World) (hv : Rd w 3 v l.length (ops8 l)) (ht : Tur w) (h : n < 1 ∨ 40 < n ∨ 100 < l.length) :
    Calls Tryd.prog 4 #[.int .i64 n, v] w fun e w' => e = .returned (.bool true) ∧ Below w.heap.size w w' := by
  have HT := Lib.hid ht; clear ht
  have hle := hv.le
  unfold maxLen at hle
  obtain ⟨ao, c, rfl⟩ := hv.nil_iff
  clear hv
  by_cases h1 : n < 1
  · clear h
    go_enter Tryd.func4, Tryd.ntmps4
    go_wp2_with fail
    refine (awake08 _ HT.out).mono ?_
    rintro e w3 ⟨rfl, hb⟩
    go_wp2
    go_ret
    exact ⟨rfl, hb⟩
  · by_cases h2 : 40 < n
    · clear h
      go_enter Tryd.func4, Tryd.ntmps4
      go_wp2_with fail
      refine (awake08 _ HT.out).mono ?_
      rintro e w3 ⟨rfl, hb⟩
      go_wp2
      go_ret
      exact ⟨rfl, hb⟩
    · have h3 : 100 < l.length := by omega
      clear h
      go_enter Tryd.func4, Tryd.ntmps4
      go_wp2_with fail
      refine (awake08 _ HT.out).mono ?_
      rintro e w3 ⟨rfl, hb⟩
      go_wp2
      go_ret
      exact ⟨rfl, hb⟩

set_option maxRecDepth 100000 in
set_option maxHeartbeats 2000000 in
theorem main (n : Nat) (v : Value) (l : List Op8) (w : World) (hv : Rd w 3 v l.length (ops8 l)) (ht : Tur w) (h1 : 1 ≤ n) (h2 : n ≤ 40) (h3 : l.length ≤ 100) :
    Calls Tryd.prog 4 #[.int .i64 n, v] w fun e w' => e = .returned (.bool true) ∧ Below w.heap.size w w' := by
  have hg : 0 < w.heap.size := ht.lt
  have side : ∀ k, ownS (.slice (some ⟨w.heap.size, 0, none⟩) n n) k → w.heap.size ≤ k := by intro k hk; simp [ownS, Value.ownBlock] at hk; omega
  have nt : Hid (¬ ownS (.slice (some ⟨w.heap.size, 0, none⟩) n n) 0) := fun h => by have := side _ h; omega
  have S := Lib.hid side
  have HT := Lib.hid ht
  have HV := Lib.hid hv
  obtain ⟨ao, c, rfl⟩ := hv.nil_iff
  clear side ht hv
  go_enter Tryd.func4, Tryd.ntmps4
  go_wp2_with fail
  refine (snew_ok n _ h1 (by omega)).mono ?_
  rintro e w1 ⟨rfl, hs1, hb1, hz1⟩
  have ht1 := HT.out.below hb1
  go_wp2_with fail
  go_loopg [7] l.length (fun g i wr => ∃ (k : Nat) (xs : List Int), k + g = l.length ∧ i = .int .i64 k ∧ xs.length = n ∧ SlotsAt TS wr (w.heap.size + 1) (.slice (some ⟨w.heap.size, 0, none⟩) n n) xs ∧ Below w.heap.size w wr ∧ Tur wr)
  case atStart => exact ⟨0, _, by omega, rfl, by simp, hs1, hb1, ht1⟩
  case round =>
    clear hs1 hb1 hz1 ht1 w1
    obtain ⟨k, xs, hk, rfl, hxn, hs, hb, ht⟩ := hrel
    by_cases hlt : k < l.length
    · obtain ⟨bl, off, c', hvv, hbl, hcells⟩ := HV.out.at (by omega)
      cases hvv
      obtain ⟨hc0, hc1, hc2⟩ := ops8_at hlt
      replace hc0 := (hb.cell (p := ⟨bl, off + k * 3, none⟩) hbl).trans (hcells _ _ hc0)
      replace hc1 := (hb.cell (p := ⟨bl, off + (k * 3 + 1), none⟩) hbl).trans (hcells _ _ hc1)
      replace hc2 := (hb.cell (p := ⟨bl, off + (k * 3 + 2), none⟩) hbl).trans (hcells _ _ hc2)
      clear hcells
      rw [show off + (k * 3 + 1) = off + k * 3 + 1 from rfl] at hc1
      rw [show off + (k * 3 + 2) = off + k * 3 + 2 from rfl] at hc2
      obtain ⟨⟨al, sl, st⟩, hop⟩ : ∃ o, o = l[k] := ⟨_, rfl⟩
      rw [← hop] at hc0 hc1 hc2
      simp only at hc0 hc1 hc2
      clear hop
      cases al with
      | true =>
        go_wp2_with fail
        refine (alloc_any hs).mono ?_
        rintro e w2 ⟨rfl, hs2, hu2⟩
        have hb2 := below_upd hb hu2 (Nat.le_refl _) S.out
        have ht2 := ht.keep hu2 nt.out
        clear hs hb ht hu2 hc0 hc1 hc2
        go_wp2
        go_roundg (gk - 1)
        case measure => omega
        case rel => exact ⟨k + 1, _, by omega, by go_num, by rw [allocList_len]; exact hxn, hs2, hb2, ht2⟩
      | false =>
        have hsd := hs.new ((Upd.refl _ wr).drew)
        have htd := ht.keep ((Upd.refl (fun _ => False) wr).drew) (fun h => h)
        have hblS : Hid (¬ ownS (.slice (some ⟨w.heap.size, 0, none⟩) n n) bl) := fun h => by have := S.out _ h; omega
        have hblw : Hid (bl < wr.drew.heap.size) := Nat.lt_of_lt_of_le hbl hb.size
        go_wp2
        go_region_held3 (fun W => W.cell? ⟨bl, off + k * 3 + 1, none⟩ = some (.int .i64 sl) ∧ W.cell? ⟨bl, off + k * 3 + 2, none⟩ = some (.int .i64 st)) (go_keep)
          ((go_at_call 14; refine (turn_any hsd htd sl st).mono ?_; rintro e w2 ⟨rfl, hs2, hu2⟩; have k1 : w2.cell? ⟨bl, off + k * 3 + 1, none⟩ = some (.int .i64 sl) := (hu2.cellAt hblw.out hblS.out).trans hc1; have k2 : w2.cell? ⟨bl, off + k * 3 + 2, none⟩ = some (.int .i64 st) := (hu2.cellAt hblw.out hblS.out).trans hc2))
        have hb2 := below_upd hb (((Upd.refl _ wr).drew).trans hu2) (Nat.le_refl _) S.out
        have ht2 := htd.keep hu2 nt.out
        clear hs hb ht hu2 hc0 hc1 hc2 hsd htd k1 k2
        go_wp2
        go_roundg (gk - 1)
        case measure => omega
        case rel => exact ⟨k + 1, _, by omega, by go_num, by rw [turnList_len]; exact hxn, hs2, hb2, ht2⟩
    · obtain rfl : k = l.length := by omega
      have hpos : 0 < xs.length := by omega
      have hwz : w.heap.size + 1 < wr.heap.size := lt_of_block hs.str
      go_wp2_with fail
      refine (lawAll_any hs 0 hpos).mono ?_
      rintro e w2 ⟨fv, rfl, hf2, hff, hb2⟩
      have hbb2 := hb.trans (hb2.mono hb.size)
      have hs2 := hs.new (Upd.of_below hb2)
      have ht2 := ht.below hb2
      have hsz2 : w.heap.size + 1 < w2.heap.size := lt_of_block hs2.str
      clear hs hb ht hb2
      obtain ⟨fo, fc, rfl⟩ := hf2.rd.nil_iff
      go_wp2_with fail
      refine (copy_any hs2).mono ?_
      rintro e w3 ⟨b', v', rfl, hc3, hlb, hlv, hb3⟩
      have hbb3 := hbb2.trans (hb3.mono hbb2.size)
      have hs3 := hs2.new (Upd.of_below hb3)
      have ht3 := ht2.below hb3
      have hf3 := hf2.keep (Upd.of_below (S := fun _ => False) hb3) (fun _ _ h => h)
      clear hs2 hbb2 ht2 hb3 hf2
      have hffs : ∀ g, (Value.slice fo (pos xs 0).length fc).ownBlock = some g → ¬ ownS (.slice (some ⟨w.heap.size, 0, none⟩) n n) g := by
        intro g hg hk
        have := hff g hg
        simp [ownS, Value.ownBlock] at hk
        omega
      go_wp2_with fail
      refine (alloc_any hs3).mono ?_
      rintro e w4 ⟨rfl, hs4, hu4⟩
      have hbb4 := below_upd hbb3 hu4 (Nat.le_refl _) S.out
      have ht4 := ht3.keep hu4 nt.out
      have hf4 := hf3.keep hu4 hffs
      have hc4 := hc3.keep hu4 (fun hk => by simp [ownS, Value.ownBlock] at hk; omega) (fun g hg hk => by have := hlv g hg; simp [ownS, Value.ownBlock] at hk; omega)
      clear hs3 hbb3 ht3 hf3 hc3 hu4
      by_cases hfr : free xs < xs.length
      · obtain ⟨rest, hpr⟩ := pos_head hfr
        have hv1 : allocVal xs = (free xs : Nat) := by simp [allocVal, hfr]
        have hv2 : allocCode xs = 0 := by simp [allocCode, hfr]
        have hlr := congrArg List.length hpr
        rw [hpr] at hf4
        obtain ⟨g, off, cap, cur, hgg, hgb, hgs, hgc⟩ := hf4.at (by simp)
        have hl1 : (pos xs 0).length = rest.length + 1 := by rw [hpr]; simp
        have hpm : (pos xs 0).length ≤ 1024 := Nat.le_trans (posTo_len xs 0 _) (by omega)
        simp only [List.length_cons] at hgg
        rw [hl1]
        rw [hl1] at hpm
        cases hgg
        have hcf := (cell_of_block hgb (off + 0)).trans (hgc 0 (.int .i64 (free xs : Nat)) rfl)
        simp at hcf
        rw [hv1, hv2]
        obtain ⟨f, hfe⟩ : ∃ f, f = free xs := ⟨_, rfl⟩
        rw [← hfe] at hcf hfr ⊢
        have HS4 := Lib.hid hs4; have HC4 := Lib.hid hc4; have HB4 := Lib.hid hbb4; have HT4 := Lib.hid ht4; have HFE := Lib.hid hfe
        clear hgb hgc hgs hf4 hs4 hc4 hbb4 ht4 hfe hv1 hv2 hlr hpr hl1 hffs
        go_wp2_with fail
        have HA : Hid (∀ j (h : j < xs.length), ∃ h' : j < (allocList xs).length, (allocList xs)[j] = if j = f then 1 else xs[j]) := by
          intro j h
          refine ⟨by rw [allocList_len]; exact h, ?_⟩
          simp only [allocList, ← HFE.out]
          rw [List.getElem_set]
          by_cases hj : f = j
          · rw [if_pos hj, if_pos hj.symm]
          · rw [if_neg hj, if_neg (fun e => hj e.symm)]
        go_loopg [13] n (fun g i wx => ∃ k : Nat, k + g = n ∧ i = .int .i64 k ∧ wx = w4)
        case atStart => exact ⟨0, by omega, rfl, rfl⟩
        case round =>
          obtain ⟨k, hk, rfl, rfl⟩ := hrel
          by_cases hlt : k < n
          · have hkx : k < xs.length := by omega
            obtain ⟨hk2, hke⟩ := HA.out k hkx
            by_cases hkf : k = f
            · subst hkf
              rw [if_pos rfl] at hke
              have HKE := Lib.hid hke; clear hke
              go_wp2_with fail
              refine (state_in HC4.out k hkx).mono ?_
              rintro e w5 ⟨rfl, rfl⟩
              go_wp2_with fail
              refine (state_in HS4.out k hk2).mono ?_
              rintro e w5 ⟨rfl, rfl⟩
              rw [HKE.out]
              go_wp2
              go_roundg (gk - 1)
              case measure => omega
              case rel => exact ⟨k + 1, by omega, by go_num, rfl⟩
            · rw [if_neg hkf] at hke
              have HKE := Lib.hid hke; clear hke
              have hkb : ((k : Int) == (f : Int)) = false := by simp; omega
              have hkd : ¬ (k : Int) = (f : Int) := by omega
              clear hkf
              go_wp2_with fail
              refine (state_in HC4.out k hkx).mono ?_
              rintro e w5 ⟨rfl, rfl⟩
              go_wp2_with fail
              refine (state_in HS4.out k hk2).mono ?_
              rintro e w5 ⟨rfl, rfl⟩
              rw [HKE.out]
              go_wp2
              go_roundg (gk - 1)
              case measure => omega
              case rel => exact ⟨k + 1, by omega, by go_num, rfl⟩
          · go_wp2_with fail
            refine (awake08 _ HT4.out).mono ?_
            rintro e w5 ⟨rfl, hb5⟩
            go_wp2
            go_ret
            exact ⟨rfl, HB4.out.trans (hb5.mono HB4.out.size)⟩
      · have hpn := pos_none hfr
        have hv1 : allocVal xs = 0 := by simp [allocVal, hfr]
        have hv2 : allocCode xs = 17 := by simp [allocCode, hfr]
        have hl1 : (pos xs 0).length = 0 := by rw [hpn]; rfl
        rw [hv1, hv2, hl1]
        clear hpn hv1 hv2 hl1 hf4 hffs hff
        have HB4 := Lib.hid hbb4; have HT4 := Lib.hid ht4
        clear hbb4 ht4 hfr
        go_wp2_with fail
        refine (awake08 _ HT4.out).mono ?_
        rintro e w5 ⟨rfl, hb5⟩
        go_wp2
        go_ret
        exact ⟨rfl, HB4.out.trans (hb5.mono HB4.out.size)⟩

theorem walk (n : Int) (v : Value) (l : List Op8) (w : World) (hv : Rd w 3 v l.length (ops8 l)) (ht : Tur w) :
    Calls Tryd.prog 4 #[.int .i64 n, v] w fun e w' => e = .returned (.bool true) ∧ Below w.heap.size w w' := by
  by_cases h : n < 1 ∨ 40 < n ∨ 100 < l.length
  · exact early n v l w hv ht h
  · obtain ⟨m, rfl⟩ := Int.eq_ofNat_of_zero_le (show 0 ≤ n by omega)
    exact main m v l w hv ht (by omega) (by omega) (by omega)

theorem own : ownKnob Tryd.prog.godebug = none := by kernel_rfl

theorem table {W : World} (h : laidMetH Tryd.prog Rows.slotsTakesRow.laid W) : Tur W := by
  have ht : Lib.TabIs Tryd.prog W "lavabo/slots.turns" .i64 [2, 28, 24, 17, 0] := Lib.tabIs_of_head (rest := []) gTab gTabType tabArr Tryd.underlying3 (by kernel_rfl) (by kernel_rfl) h
  exact ⟨ht.cell gTab 0 (by decide), ht.cell gTab 1 (by decide), ht.cell gTab 2 (by decide), ht.cell gTab 3 (by decide), ht.cell gTab 4 (by decide)⟩

theorem contract (H : Type) (enc : TypeId × Value → H) (W : World) (base : Nat) (args : Array Value) (ds gs : List (DataW H)) (before : List MemPlace)
    (hval : ∀ (j : Nat) t v, Tryd.f4.params[j]? = some t → args[j]? = some v → Value.okWide Tryd.prog W .any base t v)
    (hW : DataW.Whole enc Tryd.prog Tryd.f4.params.toList Rows.slotsTakesSpec.vars false W args.toList ds gs before) (hL : laidMetH Tryd.prog Rows.slotsTakesRow.laid W) :
    Calls Tryd.prog 4 args W fun e W' => ∃ v, e = .returned v ∧ Rows.slotsTakesSpec.post enc Tryd.prog Tryd.f4 false true false false W args v W' := by
  have hW' := hW
  obtain ⟨p, q, hA0, hV, rfl, hfz, hnd⟩ := hW
  have hA : DataW.TrodAll enc Tryd.prog W 0 (fun _ => true) true Tryd.f4.params.toList args.toList ds p := hA0
  rw [Tryd.params4] at hA hval
  obtain ⟨v0, vs0, d0, ds0, p0, q0, hargs, rfl, rfl, h0, r0⟩ := trodAll_cons hA
  obtain ⟨v1, vs1, d1, ds1, p1, q1, rfl, rfl, rfl, h1, r1⟩ := trodAll_cons r0
  obtain ⟨rfl, rfl, rfl⟩ := trodAll_nil r1
  obtain rfl : args = #[v0, v1] := by cases args; simp_all
  obtain ⟨rfl, rfl⟩ := trodVars_none hV
  obtain ⟨a0, rfl, rfl, rfl, w0⟩ := open_int Tryd.underlying3 (hval 0 3 v0 rfl rfl) h0
  obtain ⟨l, hl, _⟩ := open_rd op8C (fun _ => True) (k := 3) (fun _ => rfl) (by decide) Tryd.underlying24 cells30 op8El (hval 1 24 v1 rfl rfl) h1
  refine (walk a0 v1 l W hl (table hL)).mono fun e W' ⟨he, hb⟩ => ?_
  subst he
  exact ⟨_, rfl, law_post (T := 4) (by kernel_rfl) (by kernel_rfl) rfl Tryd.underlying4 rfl rfl hW' hb⟩

noncomputable def laidWorld (os : Os) : World :=
  { World.holding Tryd.prog os ⟨#[], #[], []⟩ with heap := (World.holding Tryd.prog os ⟨#[], #[], []⟩).heap.modify 0 fun
      | .cells _ t frozen => .cells #[.int .i64 2, .int .i64 28, .int .i64 24, .int .i64 17, .int .i64 0] t frozen
      | o => o }
theorem laid_met (os : Os) : laidMet Tryd.prog Rows.slotsTakesRow.laid ((laidWorld os).forCall (fun _ _ => 0) ⟨#[], #[.int .i64 0, .slice none 0 0], []⟩).memory :=
  laidMet_of_run' 8 (by kernel_rfl) (by kernel_rfl)
theorem reads (os : Os) {H : Type} (enc : TypeId × Value → H) : ∃ places, DataW.whole enc Tryd.prog ((laidWorld os).forCall (fun _ _ => 0) ⟨#[], #[.int .i64 0, .slice none 0 0], []⟩).memory Tryd.f4.params.toList Rows.slotsTakesSpec.vars false (#[.int .i64 0, .slice none 0 0] : Array Value).toList 8 = some ([.lit (.int .i64 0), .nil], [], places) :=
  ⟨[], by kernel_rfl⟩

set_option maxRecDepth 100000 in
theorem lifted (os : Os) (started : os.Started) (H : Type) (enc : TypeId × Value → H) (F : Stop.Interp) :
    ReturnsInHanded {} Tryd.checked os 4 .any ((OpenSpec.ofChange Rows.slotsTakesSpec).preRow enc Tryd.prog Tryd.f4 Rows.slotsTakesRow.domain false Rows.slotsTakesRow.laid) (((OpenSpec.ofChange Rows.slotsTakesSpec).at F).post enc Tryd.prog Tryd.f4 false true false false) := by
  obtain ⟨places, hx⟩ := reads os enc
  refine returnsInHanded_of_row (C := Tryd.checked) (s := OpenSpec.ofChange Rows.slotsTakesSpec) own started (by kernel_rfl) Tryd.func4
    (witness_row_at (enc := enc) (C := Tryd.checked) false (laidWorld os) #[.int .i64 0, .slice none 0 0] rfl (by kernel_rfl) (by kernel_rfl) (by kernel_rfl)
      (OpenSpec.preRow_of_cond 8 hx (by kernel_rfl) (fun k hk => by cases hk) (by kernel_rfl) (laid_met os))) ?_
  intro W base args ds gs before hval hW _ _ _ hL _ _
  exact contract H enc W base args ds gs before hval hW hL

theorem said : Rows.SlotsTakesSaid :=
  OpenClaim.holds_of_cond 4 Tryd.f4 rfl rfl rfl rfl rfl rfl rfl ⟨rfl, rfl, rfl, rfl, rfl⟩ rfl rfl rfl rfl rfl (by kernel_rfl) Tryd.func4 (by kernel_rfl)
    (of_decide_eq_true (by kernel_rfl)) (by unfold Func.isWrapper; first | (rw [if_pos (by decide +kernel)]; kernel_rfl) | (rw [if_neg (by decide +kernel)]; exact ⟨rfl, rfl⟩))
    (fun os started H enc _ F => by rw [OpenClaim.pre_eq_preRow]; exact lifted os started H enc F)

theorem plain (f : FuncId) (fn : Func) (hf : Tryd.pinned.checked.prog.funcNamed "lavabo/lavabolaw08.SlotsTakes" = some f) (hfn : Tryd.pinned.checked.prog.funcs[f]? = some fn) :
    false = Tryd.pinned.checked.prog.looks [] ∧ ∀ (j : Nat) t, fn.params[j]? = some t → Tryd.pinned.checked.prog.wantsStandIn t = false := by
  obtain rfl : f = 4 := Option.some.inj ((show Tryd.prog.funcNamed "lavabo/lavabolaw08.SlotsTakes" = some 4 by kernel_rfl).symm.trans hf) |>.symm
  obtain rfl : fn = Tryd.f4 := (Option.some.inj (Tryd.func4.symm.trans hfn)).symm
  refine ⟨by kernel_rfl, fun j t ht => ?_⟩
  have hall : Tryd.f4.params.toList.all (fun t => Tryd.prog.wantsStandIn t == false) = true := by kernel_rfl
  have hm : t ∈ Tryd.f4.params.toList := by simpa using Array.mem_of_getElem? ht
  exact eq_of_beq (List.all_eq_true.1 hall t hm)

/-- THE CARD. -/
theorem card : Rows.SlotsTakesCardSaid :=
  Claim7.holds_tied_plain_at .later [] _ _ _ _ said (fun _ h => by cases h) (by kernel_rfl) (fun _ h => by cases h) slotsTakes_row_tie rfl ⟨rfl, rfl⟩ (by kernel_rfl) rfl plain (by kernel_rfl)
end Go.Proofs.YtolhlfahoooliaaDoor.slotsTakes
