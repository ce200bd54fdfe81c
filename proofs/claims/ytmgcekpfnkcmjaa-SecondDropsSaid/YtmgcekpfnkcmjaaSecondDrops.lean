/- To drop a key leaves all others as they were, in their order: for every list of calls, every key. -/
import Derived.Test.YtmgcekpfnkcmjaaPlay07
import Derived.Test.YtmgcekpfnkcmjaaRows
namespace Go.Proofs.Ytmgcekpfnkcmjaa.secondDrops
open Go Go.RowKit Go.ChangeShapes Go.WideShapes Go.ChangeAt Go.Proofs.Ytmgcekpfnkcmjaa

set_option maxRecDepth 100000 in
theorem early (v : Value) (l : List Op7) (k : Int) (w : World) (hv : Rd w 2 v l.length (ops7 l)) (h : 100 < l.length) :
    Calls Try.prog 11 #[v, .int .i64 k] w fun e w' => e = .returned (.bool true) ∧ Below w.heap.size w w' := by
  have hle := hv.le
  unfold maxLen at hle
  obtain ⟨ao, c, rfl⟩ := hv.nil_iff
  clear hv
  go_enter Try.func11, Try.ntmps11
  go_wp2_with fail
  refine (knew_ck (S := fun _ => True) 12 6 _ (by decide) (by decide) (by decide) (fun _ _ => trivial)).mono ?_
  rintro e w1 ⟨b, rfl, _, _, hB1⟩
  go_wp2_with fail
  refine (awake07 _).mono ?_
  rintro e w2 ⟨rfl, hb2⟩
  go_wp2
  go_ret
  exact ⟨rfl, hB1.trans (hb2.mono hB1.size)⟩

/-- How many of the first j keys are others. -/
def oth (K : List Int) (k : Int) (j : Nat) : Nat := ((K.take j).filter (· ≠ k)).length
theorem oth_hit {K : List Int} {k : Int} {j : Nat} (hj : j < K.length) (h : K[j] = k) : oth K k (j + 1) = oth K k j := by
  unfold oth
  rw [List.take_succ_eq_append_getElem hj, List.filter_append]
  simp [h]
theorem oth_miss {K : List Int} {k : Int} {j : Nat} (hj : j < K.length) (h : K[j] ≠ k) : oth K k (j + 1) = oth K k j + 1 := by
  unfold oth
  rw [List.take_succ_eq_append_getElem hj, List.filter_append]
  simp [h]
theorem oth_le (K : List Int) (k : Int) (j : Nat) : oth K k j ≤ j := by
  unfold oth
  exact Nat.le_trans (List.length_filter_le _ _) (by simp; omega)
theorem erase_filter {K : List Int} (hn : K.Nodup) (k : Int) : K.erase k = K.filter (· ≠ k) := by
  rw [hn.erase_eq_filter]
  congr 1
  funext x
  by_cases h : x = k <;> simp [h]
/-- The place of an other key, among those that are left. -/
theorem oth_at {K : List Int} (hn : K.Nodup) {k : Int} {j : Nat} (hj : j < K.length) (h : K[j] ≠ k) : ∃ h2 : oth K k j < (K.erase k).length, (K.erase k)[oth K k j] = K[j] := by
  have e : K.filter (· ≠ k) = (K.take j).filter (· ≠ k) ++ K[j] :: (K.drop (j + 1)).filter (· ≠ k) := by
    have e1 : K = K.take j ++ K[j] :: K.drop (j + 1) := by simp
    have e2 : (K.take j ++ K[j] :: K.drop (j + 1)).filter (· ≠ k) = (K.take j).filter (· ≠ k) ++ K[j] :: (K.drop (j + 1)).filter (· ≠ k) := by
      rw [List.filter_append, List.filter_cons_of_pos (by simpa using h)]
    rw [← e1] at e2
    exact e2
  have e3 := erase_filter hn k
  have hl : oth K k j < (K.erase k).length := by rw [e3, e]; unfold oth; simp
  refine ⟨hl, ?_⟩
  have : (K.erase k)[oth K k j]? = some K[j] := by rw [e3, e]; unfold oth; simp
  exact (List.getElem?_eq_some_iff.1 this).2
theorem oth_end {K : List Int} (hn : K.Nodup) (k : Int) : oth K k K.length = (K.erase k).length := by
  unfold oth
  rw [erase_filter hn, List.take_length]
theorem drop_other {K : List Int} {A : Int → Bool} {k x : Int} (h : x ≠ k) : dropA K A k x = A x := by
  unfold dropA
  split
  · simp [updB, h]
  · rfl
set_option maxRecDepth 100000 in
set_option maxHeartbeats 8000000 in
theorem main (v : Value) (l : List Op7) (k : Int) (w : World) (hv : Rd w 2 v l.length (ops7 l)) (hl : ∀ o ∈ l, InR o.k) (hk : InR k) (h : l.length ≤ 100) :
    Calls Try.prog 11 #[v, .int .i64 k] w fun e w' => e = .returned (.bool true) ∧ Below w.heap.size w w' := by
  have HV := Lib.hid hv
  have HL := Lib.hid hl
  have HR := Lib.hid hk
  obtain ⟨ao, c, rfl⟩ := hv.nil_iff
  clear hv hl hk
  go_enter Try.func11, Try.ntmps11
  go_wp2_with fail
  refine (knew_ck (S := fun j => w.heap.size ≤ j) 12 6 _ (by decide) (by decide) (by decide) (fun j h => h)).mono ?_
  rintro e w1 ⟨b, rfl, hc1, _, hB1⟩
  have H1 := Lib.hid (And.intro hc1 hB1)
  clear hc1 hB1
  go_wp2_with fail
  go_loopg [7] l.length (fun g i wr => ∃ j : Nat, j + g = l.length ∧ i = .int .i64 j ∧ Cl (fun j => w.heap.size ≤ j) wr b j ∧ Below w.heap.size w wr)
  case atStart => exact ⟨0, by omega, rfl, ⟨_, _, _, H1.out.1⟩, H1.out.2⟩
  case round =>
    clear H1 w1
    obtain ⟨j, hj, rfl, hcl, hB⟩ := hrel
    by_cases hlt : j < l.length
    · obtain ⟨bl, off, c', hvv, hbl, p0, p1⟩ := op7_cells HV.out hlt
      cases hvv
      have hB2 := hB.alloc hB.size (.cells #[.slice none 0 0, .int .i64 0, .slice none 0 0, .int .i64 12, .int .i64 6] 68)
      have g0 := (hB2.cell (p := ⟨bl, off + j * 2, none⟩) hbl).trans p0
      have g1 := (hB2.cell (p := ⟨bl, off + j * 2 + 1, none⟩) hbl).trans p1
      have hD := does_step hcl hB.size (by unfold maxLen; omega) l[j].ask l[j].k (HL.out _ (List.getElem_mem hlt)) hB
      have HD := Lib.hid hD
      have HB := Lib.hid hB
      clear hD p0 p1 hB2 hcl hB
      go_wp2_with fail
      refine HD.out.mono ?_
      rintro e w3 ⟨⟨bb, rfl⟩, hc3, hu3⟩
      have H3 := Lib.hid (And.intro hc3 (below_upd HB.out hu3 (Nat.le_refl _) (fun _ h => h)))
      clear hc3 hu3 g0 g1
      go_wp2
      go_roundg (gk - 1)
      case measure => omega
      case rel => exact ⟨j + 1, by omega, by go_num, H3.out.1, H3.out.2⟩
    · obtain rfl : j = l.length := by omega
      obtain ⟨K, A, G, hc⟩ := hcl
      have HC := Lib.hid hc
      have HB := Lib.hid hB
      have HS := Lib.hid (fun (W : World) (hW : Below w.heap.size w W) (j : Nat) (hj : W.heap.size ≤ j) => Nat.le_trans hW.size hj)
      clear hc hB hj
      have HC' := Lib.hid (HC.out.out (S' := fun j => w.heap.size ≤ j ∧ (j < wr.heap.size ∨ ¬ j < wr.heap.size)) (fun j _ h => ⟨h, by omega⟩))
      clear HC'
      obtain ⟨M, hM⟩ : ∃ M, M = wr.heap.size := ⟨_, rfl⟩
      have HM := Lib.hid hM
      clear hM
      go_wp2_with fail
      refine (keys_is HC.out).mono ?_
      rintro e w2 ⟨v1, u1, rfl, hs1, ht1, hf1, hg1, hb1⟩
      have HC2 := Lib.hid (HC.out.below hb1)
      have HB2 := Lib.hid (HB.out.trans (hb1.mono HB.out.size))
      have F1 := Lib.hid (And.intro hs1 (And.intro ht1 (And.intro hf1 (And.intro hg1 hb1))))
      clear hs1 ht1 hf1 hg1 hb1
      go_wp2_with fail
      refine (ghosts_ck HC2.out).mono ?_
      rintro e w3 ⟨v2, rfl, hs2, hf2, hb2⟩
      have HB3 := Lib.hid (HB2.out.trans (hb2.mono HB2.out.size))
      have F2 := Lib.hid (And.intro hs2 (And.intro hf2 hb2))
      have hz23 : w2.heap.size ≤ w3.heap.size := hb2.size
      have hz12 : wr.heap.size ≤ w2.heap.size := F1.out.2.2.2.2.size
      have hC3 : Ck (fun j => w.heap.size ≤ j ∧ (j < wr.heap.size ∨ w3.heap.size ≤ j)) w3 b l.length 12 6 K A G :=
        ((HC.out.out (S' := fun j => w.heap.size ≤ j ∧ (j < wr.heap.size ∨ w3.heap.size ≤ j)) (fun j hj h => ⟨h, .inl hj⟩)).below F1.out.2.2.2.2).below hb2
      have HC3 := Lib.hid hC3
      have HK1 := Lib.hid (F1.out.1.keep (Upd.of_below (S := fun _ => False) hb2) (fun _ _ h => h))
      have HA1 := Lib.hid (F1.out.2.1.keep (Upd.of_below (S := fun _ => False) hb2) (fun _ _ h => h))
      have HG1 := Lib.hid hs2
      have HO1 : Hid ((∀ g, v1.ownBlock = some g → wr.heap.size ≤ g ∧ g < w3.heap.size) ∧ (∀ g, u1.ownBlock = some g → wr.heap.size ≤ g ∧ g < w3.heap.size) ∧ (∀ g, v2.ownBlock = some g → wr.heap.size ≤ g ∧ g < w3.heap.size)) :=
        ⟨fun g hg => ⟨F1.out.2.2.1 g hg, by have := F1.out.1.lt hg; omega⟩, fun g hg => ⟨F1.out.2.2.2.1 g hg, by have := F1.out.2.1.lt hg; omega⟩, fun g hg => ⟨by have := hf2 g hg; omega, hs2.lt hg⟩⟩
      clear hs2 hf2 hb2 hC3 hz23 hz12 HC2
      go_wp2_with fail
      refine (khas_ck HC3.out k).mono ?_
      rintro e w4 ⟨rfl, hc4, hb4⟩
      have HC4 := Lib.hid hc4
      have HB4 := Lib.hid (HB3.out.trans (hb4.mono HB3.out.size))
      have hz34 := hb4.size
      have U4 := Lib.hid (Upd.of_below (S := fun j => w.heap.size ≤ j ∧ (j < wr.heap.size ∨ w3.heap.size ≤ j)) hb4)
      clear hc4 hb4
      go_wp2_with fail
      refine (kdrop_any HC4.out k).mono ?_
      rintro e w5 ⟨rfl, hc5, hu5⟩
      have HB5 := Lib.hid (below_upd HB4.out hu5 (Nat.le_refl _) (fun j h => h.1))
      have HC5 := Lib.hid hc5
      have U5 := Lib.hid (U4.out.trans hu5)
      clear hc5 hu5 hz34
      go_wp2_with fail
      refine (keys_is HC5.out).mono ?_
      rintro e w6 ⟨v3, u3, rfl, hs3, ht3, hf3, hg3, hb3⟩
      have HC6 := Lib.hid (HC5.out.below hb3)
      have HB6 := Lib.hid (HB5.out.trans (hb3.mono HB5.out.size))
      have U6 := Lib.hid (U5.out.trans (Upd.of_below hb3))
      have F3 := Lib.hid (And.intro hs3 ht3)
      clear hs3 ht3 hf3 hg3 hb3
      go_wp2_with fail
      refine (ghosts_ck HC6.out).mono ?_
      rintro e w7 ⟨v4, rfl, hs4, hf4, hb4⟩
      have HB7 := Lib.hid (HB6.out.trans (hb4.mono HB6.out.size))
      have U7 := Lib.hid (U6.out.trans (Upd.of_below hb4))
      have X3 := Lib.hid (And.intro (F3.out.1.keep (Upd.of_below (S := fun _ => False) hb4) (fun _ _ h => h)) (F3.out.2.keep (Upd.of_below (S := fun _ => False) hb4) (fun _ _ h => h)))
      have hK7 := HK1.out.keep U7.out (fun g hg h => by have := HO1.out.1 g hg; omega)
      have hA7 := HA1.out.keep U7.out (fun g hg h => by have := HO1.out.2.1 g hg; omega)
      have hG7 := HG1.out.keep U7.out (fun g hg h => by have := HO1.out.2.2 g hg; omega)
      have hI := ints_any hG7.rd hs4.rd
      rw [decide_eq_true rfl] at hI
      have HI := Lib.hid hI
      have X1 := Lib.hid (And.intro hK7 hA7)
      have hkd : Hid (K.Nodup) := HC.out.good.kd
      have hkl : K.length ≤ 12 := HC.out.good.kl
      obtain ⟨av, cv, rfl⟩ := hK7.rd.nil_iff
      obtain ⟨au, cu, rfl⟩ := hA7.rd.nil_iff
      obtain ⟨a3, c3, rfl⟩ := X3.out.1.rd.nil_iff
      obtain ⟨b3, d3, rfl⟩ := X3.out.2.rd.nil_iff
      clear hs4 hf4 hb4 hK7 hA7 hG7 hI HC6 HC5 HC4 HC3 F1 F2 F3 HG1 HK1 HA1
      by_cases hkK : k ∈ K
      case' pos =>
        have e1 : touchC K k = 0 := if_pos hkK
        have e2 : decide (k ∈ K) = true := decide_eq_true hkK
      case' neg =>
        have e1 : touchC K k = 14 := if_neg hkK
        have e2 : decide (k ∈ K) = false := decide_eq_false hkK
      all_goals
        rw [e1, e2]
        clear e1 e2 hkK
        go_wp2_with fail
        refine HI.out.mono ?_
        rintro e w8 ⟨rfl, d, hw8⟩
        have u8 : Upd (fun _ => False) w7 w8 := by rw [hw8]; exact (Upd.refl _ _).drewN _
        have HB8 : Hid (Below w.heap.size w w8) := by show Below _ _ _; rw [hw8]; exact below_drewN HB7.out _
        have Y1 := Lib.hid (And.intro (X1.out.1.keep u8 (fun _ _ h => h)) (And.intro (X1.out.2.keep u8 (fun _ _ h => h)) (And.intro (X3.out.1.keep u8 (fun _ _ h => h)) (X3.out.2.keep u8 (fun _ _ h => h)))))
        clear hw8 u8 HI
        go_wp2
        go_loopg [20, 21] K.length (fun g n i W => ∃ j : Nat, j + g = K.length ∧ i = .int .i64 j ∧ n = .int .i64 (oth K k j : Nat) ∧ ∃ d, W = w8.drewN d)
        case atStart => exact ⟨0, by omega, rfl, by simp [oth], 0, rfl⟩
        case round =>
          obtain ⟨j, hj, rfl, rfl, d, rfl⟩ := hrel
          by_cases hlt : j < K.length
          · obtain ⟨g1, o1, p1, q1, hb1, hc1⟩ := Y1.out.1.rd.at (by omega)
            cases q1
            obtain ⟨g2, o2, p2, q2, hb2, hc2⟩ := Y1.out.2.1.rd.at (by omega)
            cases q2
            have x1 := hc1 j (.int .i64 K[j]) (by simp [ints, hlt])
            have x2 := hc2 j (.bool (A K[j])) (by simp [bools, hlt])
            clear hc1 hc2
            by_cases he : K[j] = k
            · have HE := Lib.hid (oth_hit hlt he)
              have q : (K[j] == k) = true := by simp [he]
              clear he x2
              go_wp2
              go_roundg (gk - 1)
              case measure => omega
              case rel => exact ⟨j + 1, by omega, by go_num, by rw [HE.out], d, rfl⟩
            · have HE := Lib.hid (oth_miss hlt he)
              obtain ⟨hn2, hat⟩ := oth_at hkd.out hlt he
              have hdo : dropA K A k K[j] = A K[j] := drop_other he
              obtain ⟨g3, o3, p3, q3, hb3, hc3⟩ := Y1.out.2.2.1.rd.at (by omega)
              cases q3
              obtain ⟨g4, o4, p4, q4, hb4, hc4⟩ := Y1.out.2.2.2.rd.at (by omega)
              cases q4
              have x3 := hc3 (oth K k j) (.int .i64 K[j]) (by rw [get_ints hn2, hat])
              have x4 := hc4 (oth K k j) (.bool (A K[j])) (by rw [← hdo]; simp [bools, hn2, hat])
              have q : (K[j] == k) = false := by simpa using he
              obtain ⟨x, hx⟩ : ∃ x, x = K[j] := ⟨_, rfl⟩
              rw [← hx] at x1 x2 x3 x4 q
              obtain ⟨y, hy⟩ : ∃ y, y = A x := ⟨_, rfl⟩
              rw [← hy] at x2 x4
              obtain ⟨n, hn⟩ : ∃ n, n = oth K k j := ⟨_, rfl⟩
              rw [← hn] at x3 x4 hn2
              rw [← hn]
              have HN := Lib.hid hn
              have hml : (K.erase k).length ≤ 12 := Nat.le_trans List.length_erase_le hkl
              have n2 : ¬ ((K.erase k).length : Int) ≤ (n : Int) := by omega
              have m2 : decide (((K.erase k).length : Int) ≤ (n : Int)) = false := by simp; omega
              have m1 : decide ((K.erase k).length ≤ n) = false := by simp; omega
              clear hc3 hc4 he hat hdo hx hy hn
              go_wp2
              go_quiet (fail)
              go_wp2
              go_roundg (gk - 1)
              case measure => omega
              case rel => exact ⟨j + 1, by omega, by go_num, by rw [HE.out, HN.out]; go_num, _, rfl⟩
          · obtain rfl : j = K.length := by omega
            have he : Hid (oth K k K.length = (K.erase k).length) := oth_end hkd.out k
            have q : ((oth K k K.length : Nat) : Int) == ((K.erase k).length : Int) := by rw [he.out]; simp
            go_wp2_with fail
            refine (awake07 _).mono ?_
            rintro e wc ⟨rfl, hbc⟩
            go_wp2
            go_ret
            have hBB := below_drewN HB8.out d
            exact ⟨rfl, hBB.trans (hbc.mono hBB.size)⟩

theorem walk (v : Value) (l : List Op7) (k : Int) (w : World) (hv : Rd w 2 v l.length (ops7 l)) (hl : ∀ o ∈ l, InR o.k) (hk : InR k) :
    Calls Try.prog 11 #[v, .int .i64 k] w fun e w' => e = .returned (.bool true) ∧ Below w.heap.size w w' := by
  by_cases h : 100 < l.length
  · exact early v l k w hv h
  · exact main v l k w hv hl hk (by omega)
theorem own : ownKnob Try.prog.godebug = none := by kernel_rfl

set_option maxRecDepth 100000 in
theorem lifted (os : Os) (started : os.Started) (H : Type) (enc : TypeId × Value → H) :
    ReturnsInHanded {} Try.checked os 11 .any (Rows.secondDropsSpec.pre6 enc Try.prog Try.f11 Rows.secondDropsRow.domain false) (Rows.secondDropsSpec.post enc Try.prog Try.f11 false true false false) := by
  refine returnsInHanded_of_change (C := Try.checked) own started (by kernel_rfl) Try.func11
    (ChangeSpec.witness6 (enc := enc) (C := Try.checked) false ⟨#[], #[.slice none 0 0,.int .i64 0], []⟩ 8 (by kernel_rfl) (by kernel_rfl) (by kernel_rfl) (by kernel_rfl)) ?_
  intro W base args ds gs before hval0 hW hcnd _
  have hval : ∀ (j : Nat) t v, Try.f11.params[j]? = some t → args[j]? = some v → Value.okWide Try.prog W .any base t v := hval0
  have hW' := hW
  obtain ⟨p, q, hA0, hV, rfl, hfz, hnd⟩ := hW
  have hA : DataW.TrodAll enc Try.prog W 0 (fun _ => true) true Try.f11.params.toList args.toList ds p := hA0
  rw [Try.params11] at hA hval
  obtain ⟨v0, vs0, d0, ds0, p0, q0, hargs, rfl, rfl, h0, r0⟩ := trodAll_cons hA
  obtain ⟨v1, vs1, d1, ds1, p1, q1, rfl, rfl, rfl, h1, r1⟩ := trodAll_cons r0
  obtain ⟨rfl, rfl, rfl⟩ := trodAll_nil r1
  obtain rfl : args = #[v0, v1] := by cases args; simp_all
  obtain ⟨rfl, rfl⟩ := trodVars_none hV
  obtain ⟨l, hl, ho⟩ := open_ops7 (hval 0 60 v0 rfl rfl) h0
  obtain ⟨a1, rfl, rfl, rfl, w1⟩ := open_int Try.underlying3 (hval 1 3 v1 rfl rfl) h1
  refine (walk v0 l a1 W hl ho (inR_of_wf w1)).mono fun e W' ⟨he, hb⟩ => ?_
  subst he
  exact ⟨_, rfl, law_post (T := 4) (by kernel_rfl) (by kernel_rfl) rfl Try.underlying4 rfl rfl hW' hb⟩

theorem over : Rows.secondDropsRow.holds Try.pinned (OpenSpec.ofChange Rows.secondDropsSpec) :=
  OpenClaim.holds_of_wide 11 Try.f11 rfl rfl rfl rfl rfl rfl rfl ⟨rfl, rfl, rfl, rfl, rfl⟩ rfl rfl rfl rfl rfl (by kernel_rfl) Try.func11 (by kernel_rfl)
    (of_decide_eq_true (by kernel_rfl)) (by unfold Func.isWrapper; first | (rw [if_pos (by decide +kernel)]; kernel_rfl) | (rw [if_neg (by decide +kernel)]; exact ⟨rfl, rfl⟩))
    (fun os started H enc _ => lifted os started H enc)

/-- The statement. -/
theorem proved : Rows.SecondDropsSaid :=
  over
end Go.Proofs.Ytmgcekpfnkcmjaa.secondDrops
