/- A key that went, and comes back as long as it is a ghost, is asked for; one that was dropped is not: for every list of calls, every key. -/
import Derived.Test.YtmgcekpfnkcmjaaPlay07
import Derived.Test.YtmgcekpfnkcmjaaRows
namespace Go.Proofs.Ytmgcekpfnkcmjaa.secondBack
open Go Go.RowKit Go.ChangeShapes Go.WideShapes Go.ChangeAt Go.Proofs.Ytmgcekpfnkcmjaa

set_option maxRecDepth 100000 in
theorem early (v : Value) (l : List Op7) (k : Int) (w : World) (hv : Rd w 2 v l.length (ops7 l)) (h : 100 < l.length) :
    Calls Try.prog 9 #[v, .int .i64 k] w fun e w' => e = .returned (.bool true) ∧ Below w.heap.size w w' := by
  have hle := hv.le
  unfold maxLen at hle
  obtain ⟨ao, c, rfl⟩ := hv.nil_iff
  clear hv
  go_enter Try.func9, Try.ntmps9
  go_wp2_with fail
  refine (knew_ck (S := fun _ => True) 12 6 _ (by decide) (by decide) (by decide) (fun _ _ => trivial)).mono ?_
  rintro e w1 ⟨b, rfl, _, _, hB1⟩
  go_wp2_with fail
  refine (awake07 _).mono ?_
  rintro e w2 ⟨rfl, hb2⟩
  go_wp2
  go_ret
  exact ⟨rfl, hB1.trans (hb2.mono hB1.size)⟩

set_option maxRecDepth 100000 in
set_option maxHeartbeats 8000000 in
theorem main (v : Value) (l : List Op7) (k : Int) (w : World) (hv : Rd w 2 v l.length (ops7 l)) (hl : ∀ o ∈ l, InR o.k) (hk : InR k) (h : l.length ≤ 100) :
    Calls Try.prog 9 #[v, .int .i64 k] w fun e w' => e = .returned (.bool true) ∧ Below w.heap.size w w' := by
  have HV := Lib.hid hv
  have HL := Lib.hid hl
  have HR := Lib.hid hk
  obtain ⟨ao, c, rfl⟩ := hv.nil_iff
  clear hv hl hk
  go_enter Try.func9, Try.ntmps9
  go_wp2_with fail
  refine (knew_ck (S := fun j => w.heap.size ≤ j) 12 6 _ (by decide) (by decide) (by decide) (fun j h => h)).mono ?_
  rintro e w1 ⟨b, rfl, hc1, _, hB1⟩
  have H1 := Lib.hid (And.intro hc1 hB1)
  clear hc1 hB1
  go_wp2_with fail
  go_loopg [7] l.length (fun g i wr => ∃ j : Nat, j + g = l.length ∧ i = .int .i64 j ∧ Cl (fun j => w.heap.size ≤ j) wr b j ∧ Below w.heap.size w wr)
  case atStart => exact ⟨0, by omega, rfl, ⟨_, _, _, H1.out.1⟩, H1.out.2⟩
  case round =>
    clear H1 w1
    obtain ⟨j, hj, rfl, hcl, hB⟩ := hrel
    by_cases hlt : j < l.length
    · obtain ⟨bl, off, c', hvv, hbl, p0, p1⟩ := op7_cells HV.out hlt
      cases hvv
      have hB2 := hB.alloc hB.size (.cells #[.slice none 0 0, .int .i64 0, .slice none 0 0, .int .i64 12, .int .i64 6] 68)
      have g0 := (hB2.cell (p := ⟨bl, off + j * 2, none⟩) hbl).trans p0
      have g1 := (hB2.cell (p := ⟨bl, off + j * 2 + 1, none⟩) hbl).trans p1
      have hD := does_step hcl hB.size (by unfold maxLen; omega) l[j].ask l[j].k (HL.out _ (List.getElem_mem hlt)) hB
      have HD := Lib.hid hD
      have HB := Lib.hid hB
      clear hD p0 p1 hB2 hcl hB
      go_wp2_with fail
      refine HD.out.mono ?_
      rintro e w3 ⟨⟨bb, rfl⟩, hc3, hu3⟩
      have H3 := Lib.hid (And.intro hc3 (below_upd HB.out hu3 (Nat.le_refl _) (fun _ h => h)))
      clear hc3 hu3 g0 g1
      go_wp2
      go_roundg (gk - 1)
      case measure => omega
      case rel => exact ⟨j + 1, by omega, by go_num, H3.out.1, H3.out.2⟩
    · obtain rfl : j = l.length := by omega
      obtain ⟨K, A, G, hc⟩ := hcl
      have HC := Lib.hid hc
      have HB := Lib.hid hB
      have HS := Lib.hid (fun (W : World) (hW : Below w.heap.size w W) (j : Nat) (hj : W.heap.size ≤ j) => Nat.le_trans hW.size hj)
      clear hc hB hj
      go_wp2_with fail
      refine (kghost_ck HC.out k).mono ?_
      rintro e w2 ⟨rfl, hc2, hb2⟩
      have HC2 := Lib.hid hc2
      have HB2 := Lib.hid (HB.out.trans (hb2.mono HB.out.size))
      obtain ⟨gh, hgh⟩ : ∃ gh, gh = decide (k ∈ G) := ⟨_, rfl⟩
      rw [← hgh]
      have HG := Lib.hid hgh
      clear hc2 hb2 hgh
      go_wp2_with fail
      refine (khas_ck HC2.out k).mono ?_
      rintro e w3 ⟨rfl, hc3, hb3⟩
      have HC3 := Lib.hid hc3
      have HB3 := Lib.hid (HB2.out.trans (hb3.mono HB2.out.size))
      clear hc3 hb3
      obtain ⟨K1, A1, hx⟩ : ∃ K1 A1, K1 = K.erase k ∧ A1 = dropA K A k := ⟨_, _, rfl, rfl⟩
      have HX := Lib.hid hx
      clear hx
      by_cases hkK : k ∈ K
      case' pos =>
        have hgf : gh = false := by rw [HG.out]; exact decide_eq_false (HC.out.good.dis k hkK)
        rw [decide_eq_true hkK]
        have e1 : touchC K k = 0 := if_pos hkK
        go_wp2_with fail
        refine (kdrop_any HC3.out k).mono ?_
        rintro e w4 ⟨rfl, hc4, hu4⟩
        rw [e1]
        have HC4 := Lib.hid hc4
        have HB4 := Lib.hid (below_upd HB3.out hu4 (Nat.le_refl _) (fun _ h => h))
        have n1 : decide (k ∈ G) = false := by rw [← HG.out, hgf]
        have n2 : decide (k ∈ K.erase k) = false := decide_eq_false (fun h => absurd h HC.out.good.kd.not_mem_erase)
        clear hc4 hu4 e1
        go_wp2_with fail
        refine (kghost_ck HC4.out k).mono ?_
        rintro e w5 ⟨rfl, hc5, hb5⟩
        rw [n1]
        have HC5 := Lib.hid hc5
        have HB5 := Lib.hid (HB4.out.trans (hb5.mono HB4.out.size))
        clear hc5 hb5 n1
        go_wp2_with fail
        refine (khas_ck HC5.out k).mono ?_
        rintro e w6 ⟨rfl, hc6, hb6⟩
        rw [n2]
        have HY : Hid (Ck (fun j => w.heap.size ≤ j) w6 b l.length 12 6 K1 A1 G ∧ k ∉ K1 ∧ Below w.heap.size w w6) := by
          refine ⟨?_, ?_, HB5.out.trans (hb6.mono HB5.out.size)⟩
          · rw [HX.out.1, HX.out.2]; exact hc6
          · rw [HX.out.1]; exact fun h => absurd h HC.out.good.kd.not_mem_erase
        have hgx : Hid (false = decide (k ∈ G)) := by rw [← HG.out, hgf]; rfl
        clear hc6 hb6 n2
        clear hgf HG HC5 HB5 HC4 HB4 HC3 HB3
        go_wp2_with fail
      case' neg =>
        rw [decide_eq_false hkK]
        have HY : Hid (Ck (fun j => w.heap.size ≤ j) w3 b l.length 12 6 K1 A1 G ∧ k ∉ K1 ∧ Below w.heap.size w w3) := by
          have e3 : K.erase k = K := List.erase_of_not_mem hkK
          have e4 : dropA K A k = A := if_neg hkK
          rw [HX.out.1, HX.out.2, e3, e4]
          exact ⟨HC3.out, hkK, HB3.out⟩
        have hgx : Hid (gh = decide (k ∈ G)) := HG.out
        clear HG HC3 HB3
        go_wp2_with fail
      all_goals
        have hK1l : K1.length ≤ 12 := HY.out.1.good.kl
        refine (klen_ck HY.out.1).mono ?_
        rintro e wl ⟨rfl, rfl⟩
        go_wp2_with fail
      all_goals
        refine (kadd_any HY.out.1 (HS.out _ HY.out.2.2) k HR.out (by unfold maxLen; omega)).mono ?_
        rintro e wa ⟨rfl, hca, hua⟩
        have HBa := Lib.hid (below_upd HY.out.2.2 hua (Nat.le_refl _) (fun _ h => h))
      all_goals
        by_cases hfull : K1.length = 12
        · have e1 : addC 12 K1 k = 17 := by unfold addC; rw [if_neg HY.out.2.1, if_pos hfull]
          have e2 : addG 12 K1 G k = G := if_pos (.inr hfull)
          rw [e2] at hca
          have HCa := Lib.hid hca
          rw [e1]
          have q : ((K1.length : Int) == 12) = true := by simp; omega
          clear hca hua e1 e2 hfull
          go_wp2_with fail
          refine (kghost_ck HCa.out k).mono ?_
          rintro e wb ⟨rfl, hcb, hbb⟩
          rw [← hgx.out]
          have HBb := Lib.hid (HBa.out.trans (hbb.mono HBa.out.size))
          clear hcb hbb q
          go_wp2_with fail
          refine (awake07 _).mono ?_
          rintro e wc ⟨rfl, hbc⟩
          go_wp2
          go_ret
          exact ⟨rfl, HBb.out.trans (hbc.mono HBb.out.size)⟩
        · have e1 : addC 12 K1 k = 0 := by unfold addC; rw [if_neg HY.out.2.1, if_neg hfull]
          have hor : ¬ (k ∈ K1 ∨ K1.length = 12) := fun h => h.elim HY.out.2.1 hfull
          have e2 : addG 12 K1 G k = G.erase k := if_neg hor
          have e3 : addK 12 K1 k = K1 ++ [k] := if_neg hor
          have e4 : addA 12 K1 A1 G k = agA A1 G k := if_neg hor
          rw [e2, e3, e4] at hca
          have HCa := Lib.hid hca
          rw [e1]
          have q : ((K1.length : Int) == 12) = false := by simp; omega
          have ha : Hid (agA A1 G k k = decide (k ∈ G)) := by
            show _ = _
            unfold agA
            by_cases hg : k ∈ G
            · rw [if_pos hg, decide_eq_true hg]; simp [updB]
            · rw [if_neg hg, decide_eq_false hg]
              cases hA : A1 k with
              | false => rfl
              | true => exact absurd (HY.out.1.good.ask k hA) HY.out.2.1
          have hng : Hid (decide (k ∈ G.erase k) = false) := decide_eq_false (fun h => absurd h HY.out.1.good.gd.not_mem_erase)
          have htc : Hid (touchC (K1 ++ [k]) k = 0) := if_pos (by simp)
          clear hca hua e1 e2 e3 e4 hfull hor
          go_wp2_with fail
          refine (keys_is HCa.out).mono ?_
          rintro e wb ⟨v, u, rfl, hs, ht, hf, hg, hbb⟩
          have HBb := Lib.hid (HBa.out.trans (hbb.mono HBa.out.size))
          have HCb := Lib.hid (HCa.out.below hbb)
          obtain ⟨gv, ov, cv, curv, rfl, hgv, _, hcv⟩ := hs.at (by simp)
          obtain ⟨gu, ou, cu, curu, rfl, hgu, _, hcu⟩ := ht.at (by simp)
          have x1 := (cell_of_block hgv (ov + K1.length)).trans (hcv K1.length (.int .i64 k) (by simp [ints]))
          have x2 := (cell_of_block hgu (ou + K1.length)).trans (hcu K1.length (.bool (agA A1 G k k)) (by simp [bools]))
          rw [ha.out, ← hgx.out] at x2
          clear hs ht hf hg hbb hgv hgu hcv hcu
          go_wp2_with fail
          refine (kghost_ck HCb.out k).mono ?_
          rintro e wc ⟨rfl, hcc, hbc⟩
          rw [hng.out]
          have HBc := Lib.hid (HBb.out.trans (hbc.mono HBb.out.size))
          have HCc := Lib.hid hcc
          clear hcc hbc x1 x2
          go_wp2_with fail
          refine (ktouch_ck HCc.out k (by unfold maxLen; omega)).mono ?_
          rintro e wd ⟨rfl, hcd, hud⟩
          rw [htc.out]
          have HBd := Lib.hid (below_upd HBc.out hud (Nat.le_refl _) (fun _ h => h))
          clear hcd hud
          go_wp2_with fail
          refine (awake07 _).mono ?_
          rintro e we ⟨rfl, hbe⟩
          go_wp2
          go_ret
          exact ⟨rfl, HBd.out.trans (hbe.mono HBd.out.size)⟩

theorem walk (v : Value) (l : List Op7) (k : Int) (w : World) (hv : Rd w 2 v l.length (ops7 l)) (hl : ∀ o ∈ l, InR o.k) (hk : InR k) :
    Calls Try.prog 9 #[v, .int .i64 k] w fun e w' => e = .returned (.bool true) ∧ Below w.heap.size w w' := by
  by_cases h : 100 < l.length
  · exact early v l k w hv h
  · exact main v l k w hv hl hk (by omega)
theorem own : ownKnob Try.prog.godebug = none := by kernel_rfl

set_option maxRecDepth 100000 in
theorem lifted (os : Os) (started : os.Started) (H : Type) (enc : TypeId × Value → H) :
    ReturnsInHanded {} Try.checked os 9 .any (Rows.secondBackSpec.pre6 enc Try.prog Try.f9 Rows.secondBackRow.domain false) (Rows.secondBackSpec.post enc Try.prog Try.f9 false true false false) := by
  refine returnsInHanded_of_change (C := Try.checked) own started (by kernel_rfl) Try.func9
    (ChangeSpec.witness6 (enc := enc) (C := Try.checked) false ⟨#[], #[.slice none 0 0,.int .i64 0], []⟩ 8 (by kernel_rfl) (by kernel_rfl) (by kernel_rfl) (by kernel_rfl)) ?_
  intro W base args ds gs before hval0 hW hcnd _
  have hval : ∀ (j : Nat) t v, Try.f9.params[j]? = some t → args[j]? = some v → Value.okWide Try.prog W .any base t v := hval0
  have hW' := hW
  obtain ⟨p, q, hA0, hV, rfl, hfz, hnd⟩ := hW
  have hA : DataW.TrodAll enc Try.prog W 0 (fun _ => true) true Try.f9.params.toList args.toList ds p := hA0
  rw [Try.params9] at hA hval
  obtain ⟨v0, vs0, d0, ds0, p0, q0, hargs, rfl, rfl, h0, r0⟩ := trodAll_cons hA
  obtain ⟨v1, vs1, d1, ds1, p1, q1, rfl, rfl, rfl, h1, r1⟩ := trodAll_cons r0
  obtain ⟨rfl, rfl, rfl⟩ := trodAll_nil r1
  obtain rfl : args = #[v0, v1] := by cases args; simp_all
  obtain ⟨rfl, rfl⟩ := trodVars_none hV
  obtain ⟨l, hl, ho⟩ := open_ops7 (hval 0 60 v0 rfl rfl) h0
  obtain ⟨a1, rfl, rfl, rfl, w1⟩ := open_int Try.underlying3 (hval 1 3 v1 rfl rfl) h1
  refine (walk v0 l a1 W hl ho (inR_of_wf w1)).mono fun e W' ⟨he, hb⟩ => ?_
  subst he
  exact ⟨_, rfl, law_post (T := 4) (by kernel_rfl) (by kernel_rfl) rfl Try.underlying4 rfl rfl hW' hb⟩

theorem over : Rows.secondBackRow.holds Try.pinned (OpenSpec.ofChange Rows.secondBackSpec) :=
  OpenClaim.holds_of_wide 9 Try.f9 rfl rfl rfl rfl rfl rfl rfl ⟨rfl, rfl, rfl, rfl, rfl⟩ rfl rfl rfl rfl rfl (by kernel_rfl) Try.func9 (by kernel_rfl)
    (of_decide_eq_true (by kernel_rfl)) (by unfold Func.isWrapper; first | (rw [if_pos (by decide +kernel)]; kernel_rfl) | (rw [if_neg (by decide +kernel)]; exact ⟨rfl, rfl⟩))
    (fun os started H enc _ => lifted os started H enc)

/-- The statement. -/
theorem proved : Rows.SecondBackSaid :=
  over
end Go.Proofs.Ytmgcekpfnkcmjaa.secondBack
