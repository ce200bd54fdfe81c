/- What each call answers, and where all blocks are, call by call: for all numbers of blocks and slots, all lists of calls, every span. -/
import Derived.Test.YtmgcekpfnkcmjaaPlaysE
import Derived.Test.YtmgcekpfnkcmjaaRows
namespace Go.Proofs.Ytmgcekpfnkcmjaa.indexPlays
open Go Go.RowKit Go.Shelf Go.ChangeShapes Go.WideShapes Go.ChangeAt Go.Proofs.Ytmgcekpfnkcmjaa
attribute [local go_sem] Oper.semAt_some

set_option maxRecDepth 100000 in
set_option maxHeartbeats 8000000 in
theorem main (p q : Nat) (v : Value) (l : List Op9) (f n : Int) (wo : World) (hv : Rd wo 4 v l.length (ops9 l)) (hp1 : 1 ≤ p) (hp2 : p ≤ 20) (hq1 : 1 ≤ q) (hq2 : q ≤ 20) (h : l.length ≤ 80) (hfb : f ≤ 9223372036854775807) (hnb : n ≤ 9223372036854775807) :
    Calls Try.prog 5 #[pairV p q, v, spanV f n] wo fun e w' => e = .returned (.bool true) ∧ Below wo.heap.size wo w' := by
  have qf := eql_func_nil9s
  obtain ⟨ao, c, rfl⟩ := hv.nil_iff
  have hv0 : Rd (start wo p q f n) 4 (.slice ao l.length c) l.length (ops9 l) := hv.below (start_below wo p q f n)
  have hsp := start_span wo p q f n
  have htw := start_two wo p q f n
  have hre := start_res wo p q f n
  have hBo := start_below wo p q f n
  have hwz : wo.heap.size + 2 < (start wo p q f n).heap.size := by simp
  clear hv
  have d1 : ¬ (20 : Int) < p := by omega
  have d2 : ¬ (20 : Int) < q := by omega
  have d3 : ¬ (p : Int) < 1 := by omega
  have d4 : ¬ (4096 : Int) < p := by omega
  have d5 : ¬ (q : Int) < 1 := by omega
  have d6 : ¬ (1024 : Int) < q := by omega
  have HV := Lib.hid hv0
  have HSP := Lib.hid hsp
  have HTW := Lib.hid htw
  have HRE := Lib.hid hre
  have HBO := Lib.hid (And.intro hBo hwz)
  clear hv0 hsp htw hre hBo hwz
  refine (callsIn_wide (n := 4)).1 ?_
  refine callsIn_of_wp_marks Try.func5 rfl trivial ?_ rfl
  simp only [Try.ntmps5, List.size_toArray, List.length_cons, List.length_nil, Nat.reduceAdd, Nat.reduceSub, Array.replicate_succ, Array.replicate_zero, List.push_toArray, List.append_toArray, List.nil_append, List.cons_append]
  refine wpIn_wide.2 ?_
  go_wp2_with fail
  generalize hgw : (((wo.alloc (.cells #[.int .i64 p, .int .i64 q] 48)).alloc (.cells #[.int .i64 f, .int .i64 n] 41)).alloc (.cells #[.bool false] 4)) = w
  have hgw' : start wo p q f n = w := hgw
  rw [hgw'] at HV HSP HTW HRE HBO
  clear hgw hgw'
  refine (inew_ok p q _ (by omega) (by omega) (by omega) (by omega)).mono ?_
  rintro e w1 ⟨b, xv, mb, rfl, hI1, hb, hmb, hfv, hB1⟩
  have HS : Hid (∀ j, ixS xv mb j → w.heap.size ≤ j) := fun j hj => hj.elim (hfv j) (fun e => e ▸ hmb)
  have HBW : Hid (wo.heap.size + 2 < w.heap.size) := HBO.out.2
  have htw1 := (hB1.block _ (lt_of_block HTW.out)).trans HTW.out
  have t0 := cell_of_block htw1 0
  have t1 := cell_of_block htw1 1
  simp at t0 t1
  have hIL : Hid (b < w1.heap.size ∧ ∀ j, ixS xv mb j → j < w1.heap.size) := ⟨hI1.blt, hI1.slt⟩
  have HI1 := Lib.hid hI1
  have HB1 := Lib.hid hB1
  clear htw1 hmb hfv hb hI1 hB1
  go_wp2_with fail
  refine (rnew_ok p q _ (by omega) (by omega)).mono ?_
  rintro e w2 ⟨rb, vs, vd, rfl, hr2, hrb, hrs, hb2⟩
  have hI2 := HI1.out.below hb2
  have hB2 := HB1.out.trans (hb2.mono HB1.out.size)
  have HDIS : Hid (∀ j, (j = b ∨ ixS xv mb j) → ¬ rS vs vd j) := fun j hj h2 => by
    have := hrs j h2
    rcases hj with rfl | hj
    · have := hIL.out.1; omega
    · have := hIL.out.2 j hj; omega
  have HDIS2 : Hid (¬ ixS xv mb rb) := fun hj => by have := hIL.out.2 _ hj; omega
  have HRS : Hid (∀ j, rS vs vd j → w.heap.size ≤ j) := fun j hj => Nat.le_trans HB1.out.size (hrs j hj)
  clear hrb hrs hb2 HB1 HI1 t0 t1
  go_wp2_with fail
  clear d1 d2 d3 d4 d5 d6
  go_loopg [10] l.length (fun g i wr => ∃ (k : Nat) (ps : List (Int × Bool)), k + g = l.length ∧ i = .int .i64 k ∧ ps.length = p ∧ IndexAt wr b xv mb k ps q ∧ RefAt wr rb vs vd ps q ∧ Below w.heap.size w wr)
  case atStart => exact ⟨0, _, by omega, rfl, by simp, hI2, hr2, hB2⟩
  case round =>
    clear hI2 hr2 hB2 hIL w1 w2
    obtain ⟨k, ps, hk, rfl, hpn, hI, hR, hB⟩ := hrel
    by_cases hlt : k < l.length
    · obtain ⟨bl, off, c', hvv, hbl, p0, p1, p2, p3⟩ := op_cells HV.out hlt
      cases hvv
      have g0 := (hB.cell (p := ⟨bl, off + k * 4, none⟩) hbl).trans p0
      have g1 := (hB.cell (p := ⟨bl, off + k * 4 + 1, none⟩) hbl).trans p1
      have g2 := (hB.cell (p := ⟨bl, off + k * 4 + 2, none⟩) hbl).trans p2
      have g3 := (hB.cell (p := ⟨bl, off + k * 4 + 3, none⟩) hbl).trans p3
      have hD := Lib.hid (does_any hI hR hI.good (by unfold maxLen; omega) HDIS.out HDIS2.out l[k])
      have hpos : 0 < (doL ps q l[k]).length := by rw [doL_len]; omega
      have HPN : Hid ((doL ps q l[k]).length = p) := by show _ = _; rw [doL_len]; exact hpn
      clear p0 p1 p2 p3 hI hR
      go_wp2_with fail
      refine hD.out.mono ?_
      rintro e w3 ⟨⟨bb, rfl, hbb⟩, hI3, hR3, hu3⟩
      obtain rfl : bb = true := by simpa using hbb
      have hB3 := below_upd hB hu3 (Nat.le_refl _) (fun j hj => hj.elim (HS.out j) (HRS.out j))
      have HI3 := Lib.hid hI3
      have HR3 := Lib.hid hR3
      clear hbb hI3 hR3 hu3 hB hD g0 g1 g2 g3
      go_wp2_with fail
      refine (same9 HI3.out HR3.out hpos).mono ?_
      rintro e w4 ⟨rfl, hb4⟩
      have hB4 := hB3.trans (hb4.mono hB3.size)
      have HI4 := Lib.hid (HI3.out.below hb4)
      have HR4 := Lib.hid (HR3.out.below hb4)
      clear hb4 hB3 HI3 HR3
      go_wp2
      go_roundg (gk - 1)
      case measure => omega
      case rel => exact ⟨k + 1, _, by omega, by go_num, HPN.out, HI4.out, HR4.out, hB4⟩
    · obtain rfl : k = l.length := by omega
      have hpos : 0 < ps.length := by omega
      have hsp2 := (hB.block _ (lt_of_block HSP.out)).trans HSP.out
      have hre2 : Boxed wr (wo.heap.size + 2) 4 (.bool false) := (hB.block _ (lt_of_block HRE.out)).trans HRE.out
      have s0 := cell_of_block hsp2 0
      have s1 := cell_of_block hsp2 1
      simp at s0 s1
      have HRE2 := Lib.hid hre2
      have HSP2 := Lib.hid hsp2
      have HI := Lib.hid hI
      have HRr := Lib.hid hR
      have hBB := HBO.out.1.trans (hB.mono HBO.out.1.size)
      have HBB := Lib.hid hBB
      have hwr : w.heap.size ≤ wr.heap.size := hB.size
      clear hsp2 hre2 hI hR hB hBB
      by_cases hneg : f < 0 ∨ n < 0
      · have hng : (f < 0) ∨ (¬ f < 0 ∧ n < 0) := by omega
        clear hneg
        have HAO := Lib.hid (all_out HI.out f n (by omega))
        rcases hng with c1 | ⟨c1, c2⟩
        all_goals
          go_wp2_with fail
          refine HAO.out.mono ?_
          rintro e w3 ⟨rfl, hb3⟩
          have hB3 := HBB.out.trans (hb3.mono HBB.out.size)
          have hr3 : Boxed w3 (wo.heap.size + 2) 4 (.bool false) := (hb3.block _ HRE2.out.lt).trans HRE2.out
          have HB3 := Lib.hid hB3
          clear hb3 hB3
          go_wp2
          refine (wpIn_wide (n := 4)).1 ?_
          refine wpIn_rangeFunc_ownH rfl (by omega) (gf := 55) (lb := #[]) rfl trivial (enters_of Try.func55 (by kernel_rfl) rfl)
            (none_stops _ (fun j => w3.heap.size ≤ j) w3) upd_t (fun W l o o' hl => upd_b (M := w3.heap.size) (fun j h => h) W l o o' hl) (Below.refl _ _) (fun _ => rfl)
            (fun _ W => Boxed W (wo.heap.size + 2) 4 (.bool false) ∧ Below w3.heap.size w3 W)
            (fun _ _ _ => False)
            (OwnFrom.and (Own.from (I := fun (_ : List It9) X => Boxed X (wo.heap.size + 2) 4 (.bool false)) (fun s A B row hs hg hr => boxed_kept hs hg hr) _) (ownFrom_below (Nat.le_refl _) (Nat.le_refl _)))
            (fun _ _ _ _ _ hs _ _ => hs)
            ⟨hr3, Below.refl _ _⟩
            (fun _ _ _ => True)
            (fun _ _ => fun _ _ _ _ _ _ _ => trivial)
            ?assign ?body ?done ?stop
          case assign =>
            intro l' pre x W K hI hK
            gi_wp2
            exact hK _ _ (KeepsFrom.refl _ _) (Upd.refl _ _) hI trivial
          case body =>
            intro l' pre x a' W hl _ _ _ hlt
            simp at hlt
          case stop =>
            rintro D c pre W _ _ h _
            exact h.elim
          case done =>
            rintro D ys W hD rfl ⟨q1, hB⟩ hK
            rename_i hKK
            refine hKK _ _ ?_
            clear hKK
            have HQ := Lib.hid q1
            have HK := Lib.hid hK
            have HB := Lib.hid (HB3.out.trans (hB.mono HB3.out.size))
            have hwoD : wo.heap.size ≤ D := by have := HB3.out.size; omega
            clear q1 hK hB hr3
            go_wp2_with fail
            refine (awake09 _).mono ?_
            rintro e w5 ⟨rfl, hb5⟩
            have hq5 : Boxed w5 (wo.heap.size + 2) 4 (.bool false) := (hb5.block _ HQ.out.lt).trans HQ.out
            have r0 := hq5.cell
            have r1 := hq5.frozen
            have HQ5 := Lib.hid hq5
            have HK5 := Lib.hid ((hb5.block D (lt_of_block HK.out)).trans HK.out)
            have HB5 := Lib.hid (HB.out.trans (hb5.mono HB.out.size))
            clear hq5 hb5
            go_wp2
            have g1' := HQ5.out.set (.bool true)
            have K2 := (KeepsOthers.setCell w5 ⟨wo.heap.size + 2, 0, none⟩ (.bool true)).same D _ HK5.out rfl
            have c4 := cell_kept g1'.cell (grownBy_putObj' _ D (.deferred none)) (fun r e => by cases e; exact ⟨_, K2, rfl⟩)
            refine ⟨by simp, .inl ⟨_, _, rfl, run_takeDeferred K2, ?_⟩⟩
            refine ⟨.bool true, ?_, rfl, ?_⟩
            · simp [results, Try.f5, go_sem, c4]
            · exact (HB5.out.setCell (p := ⟨wo.heap.size + 2, 0, none⟩) (by simp) _).trans (belowK_b (w := wo) (Nat.le_refl _) _ D _ (.deferred none) hwoD K2 rfl rfl)
      · have c1 : ¬ f < 0 := by omega
        have c2 : ¬ n < 0 := by omega
        have hA := all9 HI.out HRr.out f.toNat n.toNat (by omega) (by omega)
        rw [Int.toNat_of_nonneg (by omega), Int.toNat_of_nonneg (by omega)] at hA
        have HA := Lib.hid hA
        clear hA hneg
        go_wp2_with fail
        refine HA.out.mono ?_
        rintro e w3 ⟨rfl, hb3⟩
        have HB3 := Lib.hid (HBB.out.trans (hb3.mono HBB.out.size))
        have hr3 : Boxed w3 (wo.heap.size + 2) 4 (.bool false) := (hb3.block _ HRE2.out.lt).trans HRE2.out
        have HR3 := Lib.hid hr3
        clear hr3 hb3 HA
        go_wp2_with fail
        refine (awake09 _).mono ?_
        rintro e w4 ⟨rfl, hb4⟩
        have hr4 : Boxed w4 (wo.heap.size + 2) 4 (.bool false) := (hb4.block _ HR3.out.lt).trans HR3.out
        have r0 := hr4.cell
        have r1 := hr4.frozen
        have HR4 := Lib.hid hr4
        have HB4 := Lib.hid (HB3.out.trans (hb4.mono HB3.out.size))
        clear hr4 hb4
        go_wp2
        have g1' := HR4.out.set (.bool true)
        have c4 := g1'.cell
        refine ⟨.bool true, ?_, rfl, HB4.out.setCell (p := ⟨wo.heap.size + 2, 0, none⟩) (by simp) _⟩
        simp [results, Try.f5, go_sem, c4]

theorem walk (p q : Int) (v : Value) (l : List Op9) (f n : Int) (w : World) (hv : Rd w 4 v l.length (ops9 l)) (hfb : f ≤ 9223372036854775807) (hnb : n ≤ 9223372036854775807) :
    Calls Try.prog 5 #[pairV p q, v, spanV f n] w fun e w' => e = .returned (.bool true) ∧ Below w.heap.size w w' := by
  by_cases h1 : (20 < p ∧ p ≤ 4096) ∨ (20 < q ∧ q ≤ 1024)
  · exact early1 p q v l f n w h1
  · by_cases h2 : p < 1 ∨ 4096 < p ∨ q < 1 ∨ 1024 < q
    · exact early2 p q v l f n w h1 h2
    · obtain ⟨p', rfl⟩ : ∃ k : Nat, p = k := ⟨p.toNat, by omega⟩
      obtain ⟨q', rfl⟩ : ∃ k : Nat, q = k := ⟨q.toNat, by omega⟩
      by_cases h3 : 80 < l.length
      · exact early3 p' q' v l f n w hv (by omega) (by omega) (by omega) (by omega) h3
      · exact main p' q' v l f n w hv (by omega) (by omega) (by omega) (by omega) (by omega) hfb hnb
theorem max9 {a : Int} (h : (Lit.int .i64 a).wf = true) : a ≤ 9223372036854775807 := by
  have e2 : IntKind.i64.max = 9223372036854775807 := by decide
  simp only [Lit.wf, e2, Bool.and_eq_true, decide_eq_true_eq] at h
  exact h.2

set_option maxRecDepth 100000 in
theorem open_span9b {H : Type} {enc : TypeId × Value → H} {W : World} {base : Nat} {v : Value} {d : DataW H} {p : List MemPlace} (hok : Value.okWide Try.prog W .any base 41 v) (h : DataW.Trod enc Try.prog W 0 (fun _ => true) true 41 v d p) : ∃ f n : Int, v = spanV f n ∧ f ≤ 9223372036854775807 ∧ n ≤ 9223372036854775807 := by
  have hok' : ∃ cs, v = .agg cs := by
    unfold Value.okWide at hok
    rw [Try.underlying41] at hok
    obtain ⟨cs, h1, _⟩ := hok
    exact ⟨cs, h1⟩
  obtain ⟨cs, rfl⟩ := hok'
  obtain ⟨fuel, hf⟩ := h
  obtain ⟨xs, m, _, _, hl, hlen, hi⟩ := DataW.trod_struct Try.underlying41 hf
  rw [cells_span9] at hl
  simp only [Value.cells] at hl hi
  match hc : cs.toList, hl, xs, hlen with
  | [c0, c1], _, [y0, y1], _ =>
    rw [hc] at hi
    have h0 := hi 0 _ rfl
    have h1 := hi 1 _ rfl
    obtain ⟨a, ha, _, w0⟩ := DataW.trod_int Try.underlying3 h0
    obtain ⟨b, hb, _, w1⟩ := DataW.trod_int Try.underlying3 h1
    cases ha; cases hb
    have e : cs = #[.int .i64 a, .int .i64 b] := by rw [← @Array.toArray_toList _ cs, hc]
    exact ⟨a, b, by rw [e], max9 w0, max9 w1⟩
theorem own : ownKnob Try.prog.godebug = none := by kernel_rfl

set_option maxRecDepth 100000 in
theorem lifted (os : Os) (started : os.Started) (H : Type) (enc : TypeId × Value → H) :
    ReturnsInHanded {} Try.checked os 5 .any (Rows.indexPlaysSpec.pre6 enc Try.prog Try.f5 Rows.indexPlaysRow.domain false) (Rows.indexPlaysSpec.post enc Try.prog Try.f5 false true false false) := by
  refine returnsInHanded_of_change (C := Try.checked) own started (by kernel_rfl) Try.func5
    (ChangeSpec.witness6 (enc := enc) (C := Try.checked) false ⟨#[], #[pairV 0 0,.slice none 0 0,spanV 0 0], []⟩ 8 (by kernel_rfl) (by kernel_rfl) (by kernel_rfl) (by kernel_rfl)) ?_
  intro W base args ds gs before hval0 hW hcnd _
  have hval : ∀ (j : Nat) t v, Try.f5.params[j]? = some t → args[j]? = some v → Value.okWide Try.prog W .any base t v := hval0
  have hW' := hW
  obtain ⟨p, q, hA0, hV, rfl, hfz, hnd⟩ := hW
  have hA : DataW.TrodAll enc Try.prog W 0 (fun _ => true) true Try.f5.params.toList args.toList ds p := hA0
  rw [Try.params5] at hA hval
  obtain ⟨v0, vs0, d0, ds0, p0, q0, hargs, rfl, rfl, h0, r0⟩ := trodAll_cons hA
  obtain ⟨v1, vs1, d1, ds1, p1, q1, rfl, rfl, rfl, h1, r1⟩ := trodAll_cons r0
  obtain ⟨v2, vs2, d2, ds2, p2, q2, rfl, rfl, rfl, h2, r2⟩ := trodAll_cons r1
  obtain ⟨rfl, rfl, rfl⟩ := trodAll_nil r2
  obtain rfl : args = #[v0, v1, v2] := by cases args; simp_all
  obtain ⟨rfl, rfl⟩ := trodVars_none hV
  obtain ⟨pp, qq, rfl⟩ := open_pair Try.underlying48 Try.underlying3 cells_int9 (by kernel_rfl) (hval 0 48 v0 rfl rfl) h0
  obtain ⟨l, hl, _⟩ := open_rd (fun o : Op9 => [.int .i64 o.ask, .int .i64 o.blk, .int .i64 o.slot, .bool o.dirty]) (fun _ => True) (k := 4) (fun _ => rfl) (by decide) Try.underlying22 cells_op9 opEl9 (hval 1 22 v1 rfl rfl) h1
  obtain ⟨f, n, rfl, hfb, hnb⟩ := open_span9b (hval 2 41 v2 rfl rfl) h2
  refine (walk pp qq v1 l f n W hl hfb hnb).mono fun e W' ⟨he, hb⟩ => ?_
  subst he
  exact ⟨_, rfl, law_post (T := 4) (by kernel_rfl) (by kernel_rfl) rfl Try.underlying4 rfl rfl hW' hb⟩

theorem over : Rows.indexPlaysRow.holds Try.pinned (OpenSpec.ofChange Rows.indexPlaysSpec) :=
  OpenClaim.holds_of_wide 5 Try.f5 rfl rfl rfl rfl rfl rfl rfl ⟨rfl, rfl, rfl, rfl, rfl⟩ rfl rfl rfl rfl rfl (by kernel_rfl) Try.func5 (by kernel_rfl)
    (of_decide_eq_true (by kernel_rfl)) (by unfold Func.isWrapper; first | (rw [if_pos (by decide +kernel)]; kernel_rfl) | (rw [if_neg (by decide +kernel)]; exact ⟨rfl, rfl⟩))
    (fun os started H enc _ => lifted os started H enc)

/-- The statement. -/
theorem proved : Rows.IndexPlaysSaid :=
  over
end Go.Proofs.Ytmgcekpfnkcmjaa.indexPlays
