/- Which entries there are behind records, or that two have one block, or slot: the walk. -/
import Derived.Test.YtfhfbpmlnjdfoaaGreatDoorZA
import Derived.Test.YtfhfbpmlnjdfoaaGreatDoorA28
import Derived.Test.YtfhfbpmlnjdfoaaGreatDoorAZ
namespace Go.Proofs.YtfhfbpmlnjdfoaaGreatDoor.attachApplies
open Go Go.RowKit Go.Shelf Go.Lib Go.Proofs.YtfhfbpmlnjdfoaaGreatDoor
set_option maxRecDepth 100000 in
set_option maxHeartbeats 4000000 in
theorem walk {w : World} {v0 v1 : Value} {l : List EI} {rs : List (List Int)} (hs : Rd w 4 v0 l.length (l.flatMap EI.cs)) (hr : Rd w 7 v1 rs.length (rs.flatMap dsR)) (hl1 : l.length ≤ 4398046511104) (hr1 : rs.length ≤ 4398046511104)
    (hl : ∀ e ∈ l, I64 e.b ∧ I64 e.s) (hrr : ∀ r ∈ rs, I64 (r.getD 3 0) ∧ I64 (r.getD 4 0)) (nib : Nib w) (tur : Tur w) :
    Calls Tryz.prog 3 #[v0, v1] w fun e w' => e = .returned (.bool true) ∧ Below w.heap.size w w' := by
  obtain ⟨ao, cap, rfl⟩ := hs.nil_iff
  obtain ⟨bo, cbp, rfl⟩ := hr.nil_iff
  have HP := Lib.hid (plain19 hs hr hl1 hr1)
  have H := Lib.hid (And.intro hs (And.intro hr (And.intro hl (And.intro hrr (And.intro nib tur)))))
  have hlm := hs.le
  have hrm := hr.le
  clear hs hr hl1 hr1 hl hrr nib tur
  have aw : Hid (∀ w', Below w.heap.size w w' → Calls Tryz.prog 11 #[] w' fun e w2 => e = .returned (.bool true) ∧ Below w'.heap.size w' w2) := fun w' hb => awake19 w' (H.out.2.2.2.2.1.below hb) (H.out.2.2.2.2.2.keep (Upd.of_below (S := fun _ => False) hb) (fun h => h))
  go_enter Tryz.func3, Tryz.ntmps3
  go_wp2_with fail
  refine HP.out.mono ?_
  rintro e w2 ⟨hb2, hcase⟩
  rcases hcase with ⟨-, rfl⟩ | ⟨hok, v, u, rfl, hv, hu⟩
  · have HA := Lib.hid (And.intro (aw.out w2 hb2) hb2)
    clear aw HP hb2
    go_wp2_with fail
    refine HA.out.1.mono ?_
    rintro e w3 ⟨rfl, hb3⟩
    have HE := Lib.hid (HA.out.2.trans (hb3.mono HA.out.2.size))
    clear hb3 HA
    go_wp2
    go_ret
    exact ⟨rfl, HE.out⟩
  by_cases hbig : 20 < l.length ∨ 40 < rs.length
  · have HA := Lib.hid (And.intro (aw.out w2 hb2) hb2)
    clear aw HP hb2 hv hu hok
    by_cases h1 : 20 < l.length
    · have z1 : decide ((20 : Int) < (l.length : Int)) = true := by simp; omega
      clear hbig h1
      go_wp2_with fail
      refine HA.out.1.mono ?_
      rintro e w3 ⟨rfl, hb3⟩
      have HE := Lib.hid (HA.out.2.trans (hb3.mono HA.out.2.size))
      clear hb3 HA
      go_wp2
      go_ret
      exact ⟨rfl, HE.out⟩
    · have z1 : decide ((20 : Int) < (l.length : Int)) = false := by simp; omega
      have z2 : decide ((40 : Int) < (rs.length : Int)) = true := by simp; omega
      clear hbig h1
      go_wp2_with fail
      refine HA.out.1.mono ?_
      rintro e w3 ⟨rfl, hb3⟩
      have HE := Lib.hid (HA.out.2.trans (hb3.mono HA.out.2.size))
      clear hb3 HA
      go_wp2
      go_ret
      exact ⟨rfl, HE.out⟩
  have hl20 : l.length ≤ 20 := by omega
  have hr40 : rs.length ≤ 40 := by omega
  have z1 : decide ((20 : Int) < (l.length : Int)) = false := by simp; omega
  have z2 : decide ((40 : Int) < (rs.length : Int)) = false := by simp; omega
  rw [Bool.and_eq_true, List.all_eq_true, List.all_eq_true] at hok
  have HAp := Lib.hid (aapply (H.out.1.below hb2) (H.out.2.1.below hb2) (by omega) (by omega) H.out.2.2.1 H.out.2.2.2.1)
  have H2 := Lib.hid (And.intro hb2 (And.intro hok (And.intro hv (And.intro hu (And.intro hl20 hr40)))))
  obtain ⟨va, vc, rfl⟩ := hv.nil_iff
  obtain ⟨ua, uc, rfl⟩ := hu.nil_iff
  clear hb2 hok hv hu hl20 hr40 hbig HP
  go_wp2_with fail
  clear z1 z2
  refine HAp.out.mono ?_
  rintro e w3 ⟨v3, L, c, rfl, sl3, f3, hb3, hc⟩
  have hRf := ref19 (H2.out.2.2.1.below hb3) (H2.out.2.2.2.1.below hb3) H2.out.2.2.2.2.1 H2.out.2.2.2.2.2 H2.out.2.1.1 H2.out.2.1.2
  have HRf := Lib.hid hRf
  obtain ⟨a3, c3, rfl⟩ := sl3.rd.nil_iff
  have hLl : L.length ≤ maxLen := sl3.rd.le
  have H3 := Lib.hid (And.intro sl3 (And.intro hb3 (And.intro hc (H2.out.1.trans (hb3.mono H2.out.1.size)))))
  clear sl3 f3 hb3 hc hRf HAp
  go_wp2_with fail
  refine HRf.out.mono ?_
  rintro e w4 ⟨hb4, hcase⟩
  have hb04 := H3.out.2.2.2.trans (hb4.mono H3.out.2.2.2.size)
  have hbn := ap_bnd H2.out.2.1.1 H2.out.2.1.2
  have hat : AtB (apRs (apM l) rs) := apRs_at rs _ (apM_at l)
  rcases hcase with ⟨g, cp, rfl, hO, hg, hnb, hnd⟩ | ⟨rfl, hno⟩
  rotate_left
  · have hcL : c = 12 ∧ L = [] := by
      rcases H3.out.2.2.1 with ⟨h1, h2, -⟩ | ⟨h1, h2, h3, h4, -⟩
      · exact ⟨h1, h2⟩
      · rcases hno with h | h
        · exact absurd h2 h
        · exact absurd (nodup_noDup h3 h4 hat) h
    obtain ⟨rfl, rfl⟩ := hcL
    have HA := Lib.hid (And.intro (aw.out w4 hb04) hb04)
    clear aw HRf hb4 hb04 hbn hat hno H3 hLl
    go_wp2_with fail
    refine HA.out.1.mono ?_
    rintro e w5 ⟨rfl, hb5⟩
    have HE := Lib.hid (HA.out.2.trans (hb5.mono HA.out.2.size))
    clear hb5 HA
    go_wp2
    go_ret
    exact ⟨rfl, HE.out⟩
  have hcL : c = 0 ∧ Lists (apRs (apM l) rs) L ∧ L.Pairwise (fun x y => x.b < y.b) := by
    rcases H3.out.2.2.1 with ⟨h1, h2, h3⟩ | ⟨h1, h2, h3, h4, h5⟩
    · rcases h3 with h | ⟨L0, h4, h5⟩
      · exact absurd hnb h
      · exact absurd (lists_nodup h4 hnd hbn) h5
    · exact ⟨h1, h3, h5⟩
  obtain ⟨rfl, hLs, hsort⟩ := hcL
  have sl4 := H3.out.1.rd.below hb4
  obtain ⟨F, hF⟩ : ∃ F, F = apRs (apM l) rs := ⟨_, rfl⟩
  rw [← hF] at hO hbn hLs hat
  have HAt := Lib.hid hat
  have hLb : ∀ e ∈ L, 0 ≤ e.b ∧ e.b ≤ 19 := fun e he => (hbn _ _ ((hLs.2 e).1 he)).1
  have HL := Lib.hid (And.intro hO (And.intro hbn (And.intro hLs (And.intro hsort (And.intro hLb (And.intro sl4 hb04))))))
  clear hb4 hb04 hbn hat hO hg hnb hnd hLs hsort hLb sl4 hF HRf H3
  go_wp2_with fail
  go_loopg [12, 13] 20 (fun gk s12 s13 wr => ∃ i : Nat, i + gk = 20 ∧ s13 = .int .i64 (i : Int) ∧ s12 = .int .i64 (cntB L i : Int) ∧ Upd (fun _ => False) w4 wr)
  case atStart => exact ⟨0, by omega, rfl, by rw [cntB_0 (fun e he => (HL.out.2.2.2.2.1 e he).1)]; rfl, Upd.refl _ _⟩
  case round =>
    obtain ⟨i, hi, rfl, rfl, hu⟩ := hrel
    obtain ⟨hO, hbn, hLs, hsort, hLb, sl4, hb04⟩ := HL.out
    by_cases hlt : i < 20
    · have k1 : (i : Int) < 20 := by omega
      have i0 : (0 : Int) ≤ (i : Int) := by omega
      have hOr := hO.keep hu (fun h => h)
      have c0 := hOr.c0 hlt
      cases hFi : F (i : Int) with
      | none =>
        have e1 : slR F i = -1 := by unfold slR; rw [hFi]
        rw [e1] at c0
        have hmiss : Hid (cntB L (i + 1) = cntB L i) := cntB_miss (fun e he hb => by have := (hLs.2 e).1 he; rw [hb, hFi] at this; cases this)
        have HU := Lib.hid hu
        clear hO hbn hLs hsort hLb sl4 hb04 hu hOr hFi e1
        go_wp2_with fail
        go_roundg (gk - 1)
        case measure => omega
        case rel => exact ⟨i + 1, by omega, by go_num, by rw [hmiss.out], HU.out⟩
      | some x =>
        have hxb : x.b = (i : Int) := HAt.out _ _ hFi
        have hmem : x ∈ L := (hLs.2 x).2 (by rw [hxb]; exact hFi)
        obtain ⟨hm, hx, hm1⟩ := cntB_hit hsort hmem hxb
        have hx0 : 0 ≤ x.s := (hbn _ _ hFi).2
        have eR : enR F i = [.int .i64 x.s, .int .i64 x.x, .bool x.d] := by unfold enR; rw [hFi]
        have hrow := hOr.row hlt
        rw [eR] at hrow
        clear c0
        have c0 : wr.cell? ⟨g, i * 3, none⟩ = some (.int .i64 x.s) := hrow 0 _ rfl
        have c1 : wr.cell? ⟨g, i * 3 + 1, none⟩ = some (.int .i64 x.x) := hrow 1 _ rfl
        have c2 : wr.cell? ⟨g, i * 3 + 2, none⟩ = some (.bool x.d) := hrow 2 _ rfl
        obtain ⟨gg, oo, cc, e, hgl, hcell⟩ := sl4.at (by omega)
        cases e
        have hr4 := flat_row (enc := EI.cs) (m := 4) (fun _ => rfl) hcell hm
        rw [hx] at hr4
        have hrx : wr.rangeAt gg (oo + cntB L i * 4) [.int .i64 (i : Int), .int .i64 x.s, .bool x.d, .int .i64 x.x] := by
          have := hu.range hr4 (fun h => h)
          unfold EI.cs at this
          rw [hxb] at this
          exact this
        have HM := Lib.hid (And.intro hm1 hu)
        obtain ⟨m, hmm⟩ : ∃ m, m = cntB L i := ⟨_, rfl⟩
        rw [← hmm] at hm hrx
        rw [← hmm]
        have HMM := Lib.hid hmm
        have k2 : (m : Int) < (L.length : Int) := by omega
        have m0 : (0 : Int) ≤ (m : Int) := by omega
        have mb : (m : Int) < 9223372036854775807 := by unfold maxLen at hLl; omega
        have k3 : decide ((L.length : Int) ≤ (m : Int)) = false := by simp; omega
        have z1 : decide (x.s < 0) = false := by simp; omega
        have hneq := fun W => run_neq_ent W (i : Int) x.s x.d x.x
        clear hO hbn hLs hsort hLb sl4 hb04 hu hOr hFi hxb hmem hx hm1 hx0 eR hrow hgl hcell hr4 hmm
        go_wp2_with fail
        refine wp_region_held_drew (S := fun W => W.rangeAt gg (oo + m * 4) [.int .i64 (i : Int), .int .i64 x.s, .bool x.d, .int .i64 x.x] ∧ W.cell? ⟨g, i * 3, none⟩ = some (.int .i64 x.s) ∧ W.cell? ⟨g, i * 3 + 1, none⟩ = some (.int .i64 x.x) ∧ W.cell? ⟨g, i * 3 + 2, none⟩ = some (.bool x.d)) (by kernel_rfl) (⟨by rw [World.rangeAt_drew]; exact hrx, by rw [World.cell?_drew]; exact c0, by rw [World.cell?_drew]; exact c1, by rw [World.cell?_drew]; exact c2⟩) (fun hHeld => ?_)
        refine Wl.i [0, 1, 2] ?_; iterate 3 refine Wl.t hHeld ?_
        refine Wl.o ?_
        refine wpAnyH_take (i := 3) (v := .bool false) rfl (by kernel_rfl) (by kernel_rfl) (by kernel_rfl) (fun _ _ _ h => h) (Or.inl ⟨by rfl, ?_⟩) hHeld ?_
        · intro W hSw
          go_simp
        simp only [List.getElem_toArray, List.getElem_cons_succ, List.getElem_cons_zero, Act.put, List.setIfInBounds_toArray, List.set_cons_zero, List.set_cons_succ]
        refine Wl.i [4, 5, 6, 7] ?_; iterate 4 refine Wl.t hHeld ?_
        refine Wl.o ?_
        refine Wl.l 8 (fun w h => h.1) Tryz.underlying37 infoTh4 hHeld ?_
        refine Wl.i [9, 10, 11, 12, 13, 14, 15, 16, 17, 18, 19, 20, 21, 22, 23, 24, 25, 26, 27] ?_; iterate 19 refine Wl.t hHeld ?_
        refine Wl.o ?_
        refine Wl.d ?_
        clear hHeld hrx c0 c1 c2 hneq k3
        go_wp2_with fail
        go_roundg (gk - 1)
        case measure => omega
        case rel => exact ⟨i + 1, by omega, by go_num, by rw [HM.out.1, ← HMM.out]; go_num, HM.out.2.trans ((Upd.refl _ wr).drew)⟩
    · obtain rfl : i = 20 := by omega
      have k1 : ¬ (((20 : Nat) : Int) < 20) := by decide
      rw [cntB_20 (fun e he => (hLb e he).2)]
      have hb5 := hb04.trans ((Upd.below hu).mono hb04.size)
      have HA := Lib.hid (And.intro (aw.out wr hb5) hb5)
      clear hO hbn hLs hsort hLb sl4 hb04 hu hb5 aw
      go_wp2_with fail
      refine HA.out.1.mono ?_
      rintro e w6 ⟨rfl, hb6⟩
      have HE := Lib.hid (HA.out.2.trans (hb6.mono HA.out.2.size))
      clear hb6 HA
      go_wp2
      go_ret
      exact ⟨rfl, HE.out⟩
end Go.Proofs.YtfhfbpmlnjdfoaaGreatDoor.attachApplies
