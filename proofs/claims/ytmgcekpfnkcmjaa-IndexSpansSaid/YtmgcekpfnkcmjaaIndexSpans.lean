/- The blocks of a span are those of its two parts, one behind the other: for every list of calls, every span, wherever it is parted. -/
import Derived.Test.YtmgcekpfnkcmjaaSpansE
import Derived.Test.YtmgcekpfnkcmjaaRows
import Derived.Test.YtmgcekpfnkcmjaaQuietR
namespace Go.Proofs.Ytmgcekpfnkcmjaa.indexSpans
open Go Go.RowKit Go.Shelf Go.ChangeShapes Go.WideShapes Go.ChangeAt Go.Proofs.Ytmgcekpfnkcmjaa
attribute [local go_sem] Oper.semAt_some

set_option maxRecDepth 100000 in
set_option maxHeartbeats 8000000 in
theorem main (v : Value) (l : List Op9) (f n a : Nat) (wo : World) (hv : Rd wo 4 v l.length (ops9 l)) (h : l.length ≤ 80) (hf : f ≤ 20) (hn : n ≤ 20) (ha : a ≤ n) :
    Calls Try.prog 4 #[v, spanV f n, .int .i64 a] wo fun e w' => e = .returned (.bool true) ∧ Below wo.heap.size wo w' := by
  have qf := eql_func_nil9s
  obtain ⟨ao, c, rfl⟩ := hv.nil_iff
  have hu0 : Upd (fun _ => False) wo ((wo.alloc (.cells #[.int .i64 f, .int .i64 n] 41)).alloc (.cells #[.bool false] 4)) := ((Upd.refl _ _).alloc _).alloc _
  have hv0 := hv.keep hu0 (fun _ _ h => h)
  have hsp := (((Upd.refl (fun _ => False) (wo.alloc (.cells #[.int .i64 f, .int .i64 n] 41))).alloc (.cells #[.bool false] 4)).block _ (by simp) (fun h => h)).trans (heap_alloc_last wo (.cells #[.int .i64 f, .int .i64 n] 41) rfl)
  have hre := heap_alloc_last (wo.alloc (.cells #[.int .i64 f, .int .i64 n] 41)) (.cells #[.bool false] 4) (n := wo.heap.size + 1) (by simp)
  have hBo := ((Below.refl _ wo).alloc (Nat.le_refl _) (.cells #[.int .i64 f, .int .i64 n] 41)).alloc (by simp) (.cells #[.bool false] 4)
  clear hv hu0
  refine (callsIn_wide (n := 4)).1 ?_
  refine callsIn_of_wp_marks Try.func4 rfl trivial ?_ rfl
  simp only [Try.ntmps4, List.size_toArray, List.length_cons, List.length_nil, Nat.reduceAdd, Nat.reduceSub, Array.replicate_succ, Array.replicate_zero, List.push_toArray, List.append_toArray, List.nil_append, List.cons_append]
  refine wpIn_wide.2 ?_
  go_wp2_with fail
  have hwz : wo.heap.size + 1 < ((wo.alloc (.cells #[.int .i64 f, .int .i64 n] 41)).alloc (.cells #[.bool false] 4)).heap.size := by simp
  generalize ((wo.alloc (.cells #[.int .i64 f, .int .i64 n] 41)).alloc (.cells #[.bool false] 4)) = w at *
  have HV := Lib.hid hv0
  have HSP := Lib.hid hsp
  have HRE := Lib.hid hre
  clear hv0 hsp hre
  refine (inew_ok 12 6 _ (by decide) (by decide) (by decide) (by decide)).mono ?_
  rintro e w1 ⟨b, xv, mb, rfl, hI1, hb, hmb, hfv, hB1⟩
  have HS : Hid (∀ j, ixS xv mb j → w.heap.size ≤ j) := fun j hj => hj.elim (hfv j) (fun e => e ▸ hmb)
  have HB := Lib.hid hb
  have hsp1 := (hB1.block _ (lt_of_block HSP.out)).trans HSP.out
  have s0 := cell_of_block hsp1 0
  have s1 := cell_of_block hsp1 1
  simp at s0 s1
  have d0 : ¬ (f : Int) < 0 := by omega
  have d1 : ¬ (20 : Int) < f := by omega
  have d2 : ¬ (n : Int) < 0 := by omega
  have d3 : ¬ (20 : Int) < n := by omega
  have d4 : ¬ (a : Int) < 0 := by omega
  have d5 : ¬ (n : Int) < a := by omega
  clear hmb hfv hb hsp1
  go_wp2_with fail
  clear d0 d1 d2 d3 d4 d5
  rename_i hc1 hc2 _ _
  clear hc1 hc2
  go_loopg [9] l.length (fun g i wr => ∃ (k : Nat) (ps : List (Int × Bool)), k + g = l.length ∧ i = .int .i64 k ∧ ps.length = 12 ∧ IndexAt wr b xv mb k ps 6 ∧ Below w.heap.size w wr)
  case atStart => exact ⟨0, _, by omega, rfl, by simp, hI1, hB1⟩
  case round =>
    clear s0 s1 hI1 hB1 w1
    obtain ⟨k, ps, hk, rfl, hpn, hI, hB⟩ := hrel
    by_cases hlt : k < l.length
    · obtain ⟨bl, off, c', hvv, hbl, p0, p1, p2, p3⟩ := op_cells HV.out hlt
      cases hvv
      have g0 := (hB.cell (p := ⟨bl, off + k * 4, none⟩) hbl).trans p0
      have g1 := (hB.cell (p := ⟨bl, off + k * 4 + 1, none⟩) hbl).trans p1
      have g2 := (hB.cell (p := ⟨bl, off + k * 4 + 2, none⟩) hbl).trans p2
      have g3 := (hB.cell (p := ⟨bl, off + k * 4 + 3, none⟩) hbl).trans p3
      have hbz := hB.size
      have HId : Hid (IndexAt wr.drew b xv mb k ps 6) := hI.keep ((Upd.refl (fun _ => False) _).drew) (fun h => h) (fun _ _ h => h)
      clear p0 p1 p2 p3 hI
      go_wp2
      go_region_held3 (fun W => W.cell? ⟨bl, off + k * 4, none⟩ = some (.int .i64 l[k].ask) ∧ W.cell? ⟨bl, off + k * 4 + 1, none⟩ = some (.int .i64 l[k].blk) ∧ W.cell? ⟨bl, off + k * 4 + 2, none⟩ = some (.int .i64 l[k].slot) ∧ W.cell? ⟨bl, off + k * 4 + 3, none⟩ = some (.bool l[k].dirty)) (go_keep)
        (first
        | ((go_at_call 16; refine (rnew_ok 12 6 _ (by decide) (by decide)).mono ?_; rintro e w2 ⟨rb, vs, vd, rfl, hr, hrb, hrs, hb2⟩; have q0 := (hb2.cell (p := ⟨bl, off + k * 4, none⟩) (Nat.lt_of_lt_of_le hbl hbz)).trans g0; have q1 := (hb2.cell (p := ⟨bl, off + k * 4 + 1, none⟩) (Nat.lt_of_lt_of_le hbl hbz)).trans g1; have q2 := (hb2.cell (p := ⟨bl, off + k * 4 + 2, none⟩) (Nat.lt_of_lt_of_le hbl hbz)).trans g2; have q3 := (hb2.cell (p := ⟨bl, off + k * 4 + 3, none⟩) (Nat.lt_of_lt_of_le hbl hbz)).trans g3))
        | ((go_at_call 15; refine (does_any (HId.out.below hb2) hr (Good.start 12 6) (by unfold maxLen; omega) (by rintro j (rfl | hj) hj2; exact absurd (hrs _ hj2) (by have := HId.out.blt; omega); exact absurd (hrs _ hj2) (by have := HId.out.slt _ hj; omega)) (fun hj => by have := HId.out.slt _ hj; omega) l[k]).mono ?_; rintro e w3 ⟨⟨bb, rfl, _⟩, hI3, hr3, hu3⟩; have hns : ¬ (ixS xv mb bl ∨ rS vs vd bl) := (fun e => e.elim (fun e => by have := HS.out _ e; omega) (fun e => by have := hrs _ e; simp at this; omega)); have hbl2 : bl < w2.heap.size := Nat.lt_of_lt_of_le (Nat.lt_of_lt_of_le hbl hbz) hb2.size; have r0 := (hu3.cellAt (o := off + k * 4) hbl2 hns).trans q0; have r1 := (hu3.cellAt (o := off + k * 4 + 1) hbl2 hns).trans q1; have r2 := (hu3.cellAt (o := off + k * 4 + 2) hbl2 hns).trans q2; have r3 := (hu3.cellAt (o := off + k * 4 + 3) hbl2 hns).trans q3)))
      have hB3 : Below w.heap.size w w3 := below_upd (hB.trans ((Below.undrew hb2).mono hB.size)) hu3 (Nat.le_refl _) (fun j hj => hj.elim (HS.out j) (fun e => by have := hrs _ e; simp at this; omega))
      have HI3 := Lib.hid hI3
      have HL : Hid ((doL ps 6 l[k]).length = 12) := by show _ = _; rw [doL_len]; exact hpn
      clear hI3 hr3 hu3 r0 r1 r2 r3 q0 q1 q2 q3 g0 g1 g2 g3 hr hrs hb2 hns hB HId
      go_wp2
      go_roundg (gk - 1)
      case measure => omega
      case rel => exact ⟨k + 1, _, by omega, by go_num, HL.out, HI3.out, hB3⟩
    · obtain rfl : k = l.length := by omega
      have d0 : ¬ (f : Int) < 0 := by omega
      have d1 : ¬ (20 : Int) < f := by omega
      have d2 : ¬ (n : Int) < 0 := by omega
      have d3 : ¬ (20 : Int) < n := by omega
      have d4 : ¬ (a : Int) < 0 := by omega
      have d5 : ¬ (n : Int) < a := by omega
      have hsp2 := (hB.block _ (lt_of_block HSP.out)).trans HSP.out
      have s0 := cell_of_block hsp2 0
      have s1 := cell_of_block hsp2 1
      simp at s0 s1
      have hI2 := hI
      have HSP2 := Lib.hid hsp2
      clear hsp2 hI
      go_wp2_with fail
      refine (all_span hI2 f a).mono ?_
      rintro e w2 ⟨g1, lb1, rfl, hg1, hb2⟩
      have hI3 := hI2.below hb2
      have hB2 := hB.trans (hb2.mono hB.size)
      have hsp2 := (hb2.block _ (lt_of_block HSP2.out)).trans HSP2.out
      have s0 := cell_of_block hsp2 0
      have s1 := cell_of_block hsp2 1
      simp at s0 s1
      have HSP3 := Lib.hid hsp2
      have HG1 := Lib.hid hg1
      clear hI2 hb2 hsp2 hg1 hB
      have HA2 : Hid (Calls Try.prog 20 #[.pointer (some ⟨b, 0, none⟩), .agg #[.int .i64 ((f : Int) + a), .int .i64 ((n : Int) - a)]] w2 fun e w' => ∃ gf lb, e = .returned (.func (.func gf) #[] lb) ∧ Gives w' gf lb (items ps (f + a) (n - a)) ∧ Below w2.heap.size w2 w') := by
        have := all_span hI3 (f + a) (n - a)
        rw [show ((f + a : Nat) : Int) = (f : Int) + a by omega, show ((n - a : Nat) : Int) = (n : Int) - a by omega] at this
        exact this
      have x1 : (f : Int) + a ≤ 40 := by omega
      have x2 : (n : Int) - a ≤ 20 := by omega
      have x3 : (0 : Int) ≤ (n : Int) - a := by omega
      go_wp2_with fail
      refine HA2.out.mono ?_
      rintro e w3 ⟨g2, lb2, rfl, hg2, hb3⟩
      have hI4 := hI3.below hb3
      have hB3 := hB2.trans (hb3.mono hB2.size)
      have hsp3 := (hb3.block _ (lt_of_block HSP3.out)).trans HSP3.out
      have s0 := cell_of_block hsp3 0
      have s1 := cell_of_block hsp3 1
      simp at s0 s1
      have HG1' := Lib.hid (HG1.out.below hb3)
      have HG2 := Lib.hid hg2
      have HSP4 := Lib.hid hsp3
      clear hI3 hb3 hsp3 hg2 hB2 HA2 HG1
      go_wp2_with fail
      refine (all_span hI4 f n).mono ?_
      rintro e w4 ⟨g3, lb3, rfl, hg3, hb4⟩
      have hB4 := hB3.trans (hb4.mono hB3.size)
      have HG1 := Lib.hid (HG1'.out.below hb4)
      have HG2' := Lib.hid (HG2.out.below hb4)
      have HG3 := Lib.hid hg3
      have hre4 := (hB4.block _ (lt_of_block HRE.out)).trans HRE.out
      have hI5 := hI4.below hb4
      have hB5 := hBo.trans (hB4.mono (by omega))
      have hz4 := hB4.size
      have HRE4 := Lib.hid hre4
      have HB5 := Lib.hid hB5
      have hL1 := items_parts ps f n a ha
      have hL2 := items_len ps f n
      clear hI4 hb4 hg3 HG1' HG2 HSP4 HSP3 HSP2 hre4 hB4 hB3 hB5 hI5 s0 s1
      obtain ⟨wz, rfl⟩ : ∃ wz : World, wz = w4 := ⟨_, rfl⟩
      obtain ⟨i0, hi, hz0, hz1, hz2⟩ := info_parts infoI9s
      obtain ⟨j0, hj, hy0, hy1, hy2⟩ := info_parts infoPl
      have hbz0 : Below wz.heap.size wz ((wz.alloc (.cells #[.slice none 0 0] 45)).alloc (.cells #[.slice none 0 0] 46)) := ((Below.refl _ wz).alloc (Nat.le_refl _) _).alloc (by simp) _
      have hbx0 : boxes2 wz.heap.size [] ((wz.alloc (.cells #[.slice none 0 0] 45)).alloc (.cells #[.slice none 0 0] 46)) :=
        ⟨_, _, (Boxed.new wz _ _).alloc _, heap_alloc_last _ _ (by simp), World.ownsRow_nil _ _ _ _, World.ownsRow_nil _ _ _ _, Dis.nil _ _ _⟩
      have hz0' : ((wz.alloc (.cells #[.slice none 0 0] 45)).alloc (.cells #[.slice none 0 0] 46)).heap.size = wz.heap.size + 2 := by simp
      have hlen1 : (items ps f a).length ≤ 12 := by have := items_len ps f a; omega
      go_wp2
      refine (wpIn_wide (n := 4)).1 ?_
      refine' wpIn_rangeFunc_ownH rfl (by omega) (gf := g1) (lb := lb1) rfl trivial HG1.out.1
        (HG1.out.2 3 (by omega) (fun j => wz.heap.size ≤ j) (fun j h => h) _ hbz0) upd_t (fun W l o o' hl => upd_b (M := wz.heap.size) (fun j h => h) W l o o' (by simp at hl; omega)) (Below.refl _ _) (fun _ => rfl)
        (fun pre W => boxes2 wz.heap.size pre W ∧ Below wz.heap.size wz W)
        (fun _ _ _ => False)
        (OwnFrom.and (Own.from (boxes2_own wz.heap.size) _) (ownFrom_below (Nat.le_refl _) (by simp; omega)))
        (fun _ _ _ _ _ hs _ _ => hs)
        ⟨hbx0, hbz0⟩
        (fun x a' W => ∃ pb, a' = (_ : It9 → Nat → Act) x pb ∧ plBox x pb W)
        (fun x a' => fun s X Y row hs hg hr => by obtain ⟨pb, e, hp⟩ := hs; exact ⟨pb, e, plBox_own _ x pb () X Y row hp hg hr⟩)
        ?assign ?body ?done ?stop
      case assign =>
        rintro l' pre x W K ⟨hbx, hB⟩ hK
        gi_wp2
        have hu : Upd (fun j => wz.heap.size ≤ j) W (W.alloc (.cells #[.int .i64 x.2.1, .bool x.2.2] 36)) := (Upd.refl _ _).alloc _
        refine hK _ _ (KeepsFrom.of_grownBy (World.grownBy_alloc W _ none) (fun j e => by cases e)) hu ⟨boxes2_own _ _ _ _ none hbx (World.grownBy_alloc W _ none) (fun r e => by cases e), hB.alloc hB.size _⟩ ⟨W.heap.size, ?_, heap_alloc_last W _ rfl⟩
        generalize W.heap.size = pb
        exact rfl
      case body =>
        rintro l' pre x a' W hl _ ⟨⟨v, u, hv, hu, hr1, hr2, hd⟩, hB⟩ ⟨pb, rfl, hp⟩ hlt
        have hn12 : pre.length < 12 := by omega
        have hWs : wz.heap.size ≤ W.heap.size := hB.size
        have hcv := hv.cell
        gi_wp2_with (first
          | (gi_at_builtin; refine wpListIn_append_own_at _ rfl _ _ 45 rfl wz.heap.size 3 i0 (.int .i64 0) 1 8 Try.underlying45 hi hz0 hz1 hz2 rfl (by decide) _ _ _ rfl (hr1.alloc _) ⟨W.heap.size, 0, none⟩ 1 1 [.int .i64 (x.1 : Int)] rfl rfl (cell_one_new _ _ _) (by simp [Value.oneCell']) (by unfold maxLen; omega) (by omega) (by simp; omega) ?_; intro v' w1' hown' hgrow _ hfrom; obtain ⟨gv, capv, rfl⟩ := ownsRow_succ hown'; obtain ⟨hv1, hv2, hrv, hk2, hb2⟩ := hv.appended (by decide) hr1 hWs (Nat.le_refl _) hown' hgrow; obtain ⟨hu', hru, hd', hpb⟩ := app_other hv hu (by decide) (by decide) (by decide) (by omega) hr1 hr2 hd hown' hgrow hfrom; have hp' := hpb pb _ _ (by decide) (by decide) hp; have hc1 := hv1.cell; have hf1 := hv1.frozen; have hcu := hu'.cell; have hfu := hu'.frozen; have hp0 := cell_of_block hp' 0; have hp1 := cell_of_block hp' 1; simp at hp0 hp1)
          | (gi_at_builtin; refine wpListIn_append_own_at _ rfl _ _ 46 rfl wz.heap.size 36 j0 (.agg #[.int .i64 0, .bool false]) 2 16 Try.underlying46 hj hy0 hy1 hy2 rfl (by decide) _ _ _ rfl (hru.alloc _) ⟨w1'.heap.size, 0, none⟩ 1 1 [.int .i64 x.2.1, .bool x.2.2] rfl rfl (fun j u hj => by have := cells_two_new (w1'.setCell ⟨wz.heap.size, 0, none⟩ (.slice (some ⟨gv, 0, none⟩) (pre.length + 1) capv)) (.int .i64 x.2.1) (.bool x.2.2) 36 j u hj; rw [World.size_setCell] at this; exact this) (by simp [Value.oneCell']) (by unfold maxLen; omega) (by omega) (by have := hb2.size; simp at this ⊢; omega) ?_; intro u' w2' hown2 hgrow2 _ hfrom2; obtain ⟨gu, capu, rfl⟩ := ownsRow_succ hown2; obtain ⟨hu1, hu2, hru2, hk4, hb4⟩ := hu'.appended (by decide) hru (by have := hb2.size; simp at this ⊢; omega) (by omega) hown2 hgrow2; obtain ⟨hv', hrv', hd2, _⟩ := app_other hu' hv2 (by decide) (by decide) (by decide) (by omega) hru hrv hd'.symm hown2 hgrow2 hfrom2; have hc3 := hu1.cell; have hf3 := hu1.frozen))
        exact ⟨(hk2.trans hk4).from _, (upd_below hb2).trans (upd_below hb4), ⟨_, _, hv', hu2, rows_snoc hrv' hru2 hd2.symm⟩, hB.trans (hb2.trans hb4)⟩
      case stop =>
        rintro D c pre W _ _ h _
        exact h.elim
      case done =>
        rintro D ys W hD rfl ⟨hbx, hB⟩ hK
        rename_i hKK
        refine hKK _ _ ?_
        clear hKK
        have hDz : D < W.heap.size := lt_of_block hK
        have hBB := Lib.hid hB
        obtain ⟨wy, rfl⟩ : ∃ wy : World, wy = W := ⟨_, rfl⟩
        go_wp2
        refine (wpIn_wide (n := 4)).1 ?_
        have hlen2 : (items ps (f + a) (n - a)).length ≤ 12 := by have := items_len ps (f + a) (n - a); omega
        have hyz := hBB.out.size
        refine' wpIn_rangeFunc_ownH rfl (by omega) (gf := g2) (lb := lb2) rfl trivial HG2'.out.1
          (HG2'.out.2 3 (by omega) (fun j => wz.heap.size ≤ j) (fun j h => h) wy hBB.out) upd_t (fun W l o o' hl => upd_b (M := wz.heap.size) (fun j h => h) W l o o' (by omega)) (Below.refl _ _) (fun _ => rfl)
          (fun pre W => (boxes2 wz.heap.size (items ps f a ++ pre) W ∧ W.heap[D]? = some (.deferred (some []))) ∧ Below wz.heap.size wz W)
          (fun _ _ _ => False)
          (OwnFrom.and (OwnFrom.and (Own.from (I := fun s X => boxes2 wz.heap.size (items ps f a ++ s) X) (fun s X Y row hs hg hr => boxes2_own wz.heap.size (items ps f a ++ s) X Y row hs hg hr) _) (ownFrom_block hDz)) (ownFrom_below (Nat.le_refl _) hyz))
          (fun _ _ _ _ _ hs _ _ => hs)
          ⟨⟨by simpa using hbx, hK⟩, hBB.out⟩
          (fun x a' W => ∃ pb, a' = (_ : It9 → Nat → Act) x pb ∧ plBox x pb W)
          (fun x a' => fun s X Y row hs hg hr => by obtain ⟨pb, e, hp⟩ := hs; exact ⟨pb, e, plBox_own _ x pb () X Y row hp hg hr⟩)
          ?assign ?body ?done ?stop
        case assign =>
          rintro l' pre x W K ⟨⟨hbx, hD0⟩, hB⟩ hK
          gi_wp2
          have hu : Upd (fun j => wz.heap.size ≤ j) W (W.alloc (.cells #[.int .i64 x.2.1, .bool x.2.2] 36)) := (Upd.refl _ _).alloc _
          refine hK _ _ (KeepsFrom.of_grownBy (World.grownBy_alloc W _ none) (fun j e => by cases e)) hu ⟨⟨boxes2_own _ _ _ _ none hbx (World.grownBy_alloc W _ none) (fun r e => by cases e), (Below.heap_alloc _ _ _ (lt_of_block hD0)).trans hD0⟩, hB.alloc hB.size _⟩ ⟨W.heap.size, ?_, heap_alloc_last W _ rfl⟩
          generalize W.heap.size = pb
          exact rfl
        case body =>
          rintro l' pre' x a' W hl _ ⟨⟨⟨v, u, hv, hu, hr1, hr2, hd⟩, hD0⟩, hB⟩ ⟨pb, rfl, hp⟩ hlt
          have hn12 : (items ps f a ++ pre').length < 24 := by rw [List.length_append]; omega
          have hq' : items ps f a ++ (pre' ++ [x]) = (items ps f a ++ pre') ++ [x] := by rw [List.append_assoc]
          have HQ := Lib.hid hq'
          clear hq'
          generalize items ps f a ++ pre' = pre at *
          have hWs : wz.heap.size ≤ W.heap.size := hB.size
          have hcv := hv.cell
          gi_wp2_with (first
            | (gi_at_builtin; refine wpListIn_append_own_at _ rfl _ _ 45 rfl wz.heap.size 3 i0 (.int .i64 0) 1 8 Try.underlying45 hi hz0 hz1 hz2 rfl (by decide) _ _ _ rfl (hr1.alloc _) ⟨W.heap.size, 0, none⟩ 1 1 [.int .i64 (x.1 : Int)] rfl rfl (cell_one_new _ _ _) (by simp [Value.oneCell']) (by unfold maxLen; omega) (by omega) (by simp; omega) ?_; intro v' w1' hown' hgrow _ hfrom; obtain ⟨gv, capv, rfl⟩ := ownsRow_succ hown'; obtain ⟨hv1, hv2, hrv, hk2, hb2⟩ := hv.appended (by decide) hr1 hWs (Nat.le_refl _) hown' hgrow; obtain ⟨hu', hru, hd', hpb⟩ := app_other hv hu (by decide) (by decide) (by decide) (by omega) hr1 hr2 hd hown' hgrow hfrom; have hp' := hpb pb _ _ (by decide) (by decide) hp; have hc1 := hv1.cell; have hf1 := hv1.frozen; have hcu := hu'.cell; have hfu := hu'.frozen; have hp0 := cell_of_block hp' 0; have hp1 := cell_of_block hp' 1; simp at hp0 hp1)
            | (gi_at_builtin; refine wpListIn_append_own_at _ rfl _ _ 46 rfl wz.heap.size 36 j0 (.agg #[.int .i64 0, .bool false]) 2 16 Try.underlying46 hj hy0 hy1 hy2 rfl (by decide) _ _ _ rfl (hru.alloc _) ⟨w1'.heap.size, 0, none⟩ 1 1 [.int .i64 x.2.1, .bool x.2.2] rfl rfl (fun j u hj => by have := cells_two_new (w1'.setCell ⟨wz.heap.size, 0, none⟩ (.slice (some ⟨gv, 0, none⟩) (pre.length + 1) capv)) (.int .i64 x.2.1) (.bool x.2.2) 36 j u hj; rw [World.size_setCell] at this; exact this) (by simp [Value.oneCell']) (by unfold maxLen; omega) (by omega) (by have := hb2.size; simp at this ⊢; omega) ?_; intro u' w2' hown2 hgrow2 _ hfrom2; obtain ⟨gu, capu, rfl⟩ := ownsRow_succ hown2; obtain ⟨hu1, hu2, hru2, hk4, hb4⟩ := hu'.appended (by decide) hru (by have := hb2.size; simp at this ⊢; omega) (by omega) hown2 hgrow2; obtain ⟨hv', hrv', hd2, _⟩ := app_other hu' hv2 (by decide) (by decide) (by decide) (by omega) hru hrv hd'.symm hown2 hgrow2 hfrom2; have hc3 := hu1.cell; have hf3 := hu1.frozen))
          refine ⟨(hk2.trans hk4).from _, (upd_below hb2).trans (upd_below hb4), ⟨?_, (hk2.trans hk4).same D _ hD0 rfl⟩, hB.trans (hb2.trans hb4)⟩
          rw [HQ.out]
          exact ⟨_, _, hv', hu2, rows_snoc hrv' hru2 hd2.symm⟩
        case stop =>
          rintro D c pre W _ _ h _
          exact h.elim
        case done =>
          rintro D2 ys W hD2 rfl ⟨⟨hbx, hK1⟩, hB⟩ hK2
          rename_i hKK
          refine hKK _ _ ?_
          clear hKK
          rw [hL1] at hbx
          obtain ⟨v, u, hv, hu, hr1, hr2, hd⟩ := hbx
          generalize hLe : items ps f n = L at *
          have hLl : L.length ≤ 12 := by omega
          have hD1z : D < W.heap.size := lt_of_block hK1
          have hD2z : D2 < W.heap.size := lt_of_block hK2
          have hWz : wz.heap.size ≤ W.heap.size := hB.size
          obtain ⟨wx, rfl⟩ : ∃ wx : World, wx = W := ⟨_, rfl⟩
          have hMx : wz.heap.size + 1 < wx.heap.size := hu.lt
          have hvl : ∀ g, v.ownBlock = some g → g < wx.heap.size := fun g hg => (Sl.of_own hr1).lt hg
          have hul : ∀ g, u.ownBlock = some g → g < wx.heap.size := fun g hg => (Sl.of_own hr2).lt hg
          have hux : Upd (fun _ => False) wx (wx.alloc (.cells #[.int .i64 0] 3)) := (Upd.refl _ _).alloc _
          have hbx3 : Below wz.heap.size wz (wx.alloc (.cells #[.int .i64 0] 3)) := hB.alloc hWz _
          have hv3 := hv.alloc (.cells #[.int .i64 0] 3)
          have hu3 := hu.alloc (.cells #[.int .i64 0] 3)
          have hr13 := hr1.alloc (.cells #[.int .i64 0] 3)
          have hr23 := hr2.alloc (.cells #[.int .i64 0] 3)
          have hK13 := (hux.block _ hD1z (fun h => h)).trans hK1
          have hK23 := (hux.block _ hD2z (fun h => h)).trans hK2
          go_wp2
          refine (wpIn_wide (n := 4)).1 ?_
          refine' wpIn_rangeFunc_ownH rfl (by omega) (gf := g3) (lb := lb3) rfl trivial HG3.out.1
            (HG3.out.2 3 (by omega) (fun j => wz.heap.size ≤ j) (fun j h => h) _ hbx3) upd_t (fun W l o o' hl => upd_b (M := wz.heap.size) (fun j h => h) W l o o' (by simp at hl; omega)) (Below.refl _ _) (fun _ => rfl)
            (fun pre W => ((Boxed W wz.heap.size 45 v ∧ Boxed W (wz.heap.size + 1) 46 u ∧ rowsAt W wz.heap.size v u L ∧ Boxed W wx.heap.size 3 (.int .i64 (pre.length : Int)) ∧ pre <+: L) ∧ W.heap[D]? = some (.deferred (some [])) ∧ W.heap[D2]? = some (.deferred (some []))) ∧ Below wz.heap.size wz W)
            (fun _ pre _ => ¬ pre <+: L)
            (OwnFrom.and (OwnFrom.and (Own.from (I := fun (s : List It9) X => Boxed X wz.heap.size 45 v ∧ Boxed X (wz.heap.size + 1) 46 u ∧ rowsAt X wz.heap.size v u L ∧ Boxed X wx.heap.size 3 (.int .i64 (s.length : Int)) ∧ s <+: L) (fun s X Y row hs hg hr => ⟨boxed_kept hs.1 hg hr, boxed_kept hs.2.1 hg hr, ⟨row_kept hs.2.2.1.1 hg hr, row_kept hs.2.2.1.2.1 hg hr, hs.2.2.1.2.2⟩, boxed_kept hs.2.2.2.1 hg hr, hs.2.2.2.2⟩) _)
              (OwnFrom.and (ownFrom_block (by simp; omega)) (ownFrom_block (by simp; omega)))) (ownFrom_below (Nat.le_refl _) (by simp; omega)))
            (fun _ => ownFrom_pure _ _)
            ⟨⟨⟨hv3, hu3, ⟨hr13, hr23, hd⟩, Boxed.new wx _ _, List.nil_prefix⟩, hK13, hK23⟩, hbx3⟩
            (fun x a' W => ∃ pb, a' = (_ : It9 → Nat → Act) x pb ∧ plBox x pb W)
            (fun x a' => fun s X Y row hs hg hr => by obtain ⟨pb, e, hp⟩ := hs; exact ⟨pb, e, plBox_own _ x pb () X Y row hp hg hr⟩)
            ?assign ?body ?done ?stop
          case assign =>
            rintro l' pre x W K ⟨⟨⟨q1, q2, ⟨q3, q4, q5⟩, q6, q7⟩, hD0, hD9⟩, hB⟩ hK
            gi_wp2
            have hu : Upd (fun j => wz.heap.size ≤ j) W (W.alloc (.cells #[.int .i64 x.2.1, .bool x.2.2] 36)) := (Upd.refl _ _).alloc _
            have hg0 := World.grownBy_alloc W (.cells #[.int .i64 x.2.1, .bool x.2.2] 36) none
            refine hK _ _ (KeepsFrom.of_grownBy hg0 (fun j e => by cases e)) hu ⟨⟨⟨q1.alloc _, q2.alloc _, ⟨q3.alloc _, q4.alloc _, q5⟩, q6.alloc _, q7⟩, (Below.heap_alloc _ _ _ (lt_of_block hD0)).trans hD0, (Below.heap_alloc _ _ _ (lt_of_block hD9)).trans hD9⟩, hB.alloc hB.size _⟩ ⟨W.heap.size, ?_, heap_alloc_last W _ rfl⟩
            generalize W.heap.size = pb
            exact rfl
          case stop =>
            rintro D3 c pre W _ hsp h _
            exact absurd hsp h
          case body =>
            rintro l' pre x a' W hl _ ⟨⟨⟨q1, q2, ⟨q3, q4, q5⟩, q6, q7⟩, hD0, hD9⟩, hB⟩ ⟨pb, rfl, hp⟩ hlt
            have hpx := prefix_snoc (x := x) q7
            have hs1 := Sl.of_own q3
            have hs2 := Sl.of_own q4
            obtain ⟨y, hy⟩ : ∃ y, y = L[pre.length] := ⟨_, rfl⟩
            obtain ⟨g, off, cap, cur, rfl, hg, _, hcc⟩ := hs1.at (by omega)
            obtain ⟨gu, offu, capu, curu, rfl, hgu, _, hccu⟩ := hs2.at (by omega)
            have e0 := (cell_of_block hg (off + pre.length)).trans (hcc pre.length (.int .i64 (y.1 : Int)) (by simp [hlt, hy]))
            have hpa := plC_at (l := L.map (·.2)) (k := pre.length) (by simpa using hlt)
            have e1 := (cell_of_block hgu (offu + pre.length * 2)).trans (hccu (pre.length * 2) (.int .i64 y.2.1) (by rw [hpa.1]; simp [hy]))
            have e2 := (cell_of_block hgu (offu + pre.length * 2 + 1)).trans (hccu (pre.length * 2 + 1) (.bool y.2.2) (by rw [hpa.2]; simp [hy]))
            have c1 := q1.cell
            have c2 := q2.cell
            have c6 := q6.cell
            have f6 := q6.frozen
            have hp0 := cell_of_block hp 0
            have hp1 := cell_of_block hp 1
            simp at hp0 hp1
            have hrb : Boxed W (wo.heap.size + 1) 4 (.bool false) := (hB.block _ (lt_of_block HRE4.out)).trans HRE4.out
            have cr := hrb.cell
            have fr := hrb.frozen
            have n0 : (0 : Int) ≤ (pre.length : Int) := by omega
            have n1 : (pre.length : Int) < (L.length : Int) := by omega
            have n2 : ¬ (L.length : Int) ≤ (pre.length : Int) := by omega
            have n3 : (pre.length : Int) ≤ 12 := by omega
            have m1 : decide (L.length ≤ pre.length) = false := by simp; omega
            have m2 : decide ((L.length : Int) ≤ (pre.length : Int)) = false := by simp; omega
            have HN := Lib.hid (show pre.length + 1 ≤ 12 by omega)
            clear hcc hccu hpa hg hgu
            by_cases hxy : y = x
            · subst hxy
              have hpre : (pre ++ [y]) <+: L := hpx.2 ⟨hlt, hy.symm⟩
              gi_wp2
              refine wpIn_region_quiet_round rfl (by kernel_rfl) (by kernel_rfl) (by kernel_rfl) ?_
              repeat (gi_big_quiet_step (fail))
              refine wpQuietIn_nil ?_
              intro _ hw'
              obtain ⟨nq, hw''⟩ := hw'
              subst hw''
              gi_wp2
              have hln : ((pre.length : Int) + 1) = ((pre ++ [y]).length : Int) := by simp
              rw [hln]
              have hud : Upd (fun j => wz.heap.size ≤ j) W (W.drewN nq) := (Upd.refl _ _).drewN nq
              have hus := upd_setCell (W.drewN nq) wx.heap.size 0 (.int .i64 ((pre ++ [y]).length : Int))
              have hKO : KeepsOthers W ((W.drewN nq).setCell ⟨wx.heap.size, 0, none⟩ (.int .i64 ((pre ++ [y]).length : Int))) := ⟨by simp [World.drewN], fun k o hk ho => (KeepsOthers.setCell (W.drewN nq) _ _).same k o hk ho⟩
              refine ⟨hKO.from _, hud.trans (hus.mono (fun j _ e => by omega)), ⟨⟨?_, ?_, ⟨?_, ?_, q5⟩, ?_, hpre⟩, hKO.same D _ hD0 rfl, hKO.same D2 _ hD9 rfl⟩, (below_drewN hB nq).setCell (p := ⟨wx.heap.size, 0, none⟩) hWz _⟩
              · exact (show Boxed (W.drewN nq) wz.heap.size 45 _ from q1).other (by omega) _
              · exact (show Boxed (W.drewN nq) (wz.heap.size + 1) 46 _ from q2).other (by omega) _
              · exact World.ownsRow.kept (w := W.drewN nq) q3 (grownBy_setCell' (W.drewN nq) wx.heap.size _) (.inr (fun e => by have := hvl _ e; omega))
              · exact World.ownsRow.kept (w := W.drewN nq) q4 (grownBy_setCell' (W.drewN nq) wx.heap.size _) (.inr (fun e => by have := hul _ e; omega))
              · exact (show Boxed (W.drewN nq) wx.heap.size 3 _ from q6).set _
            · have hnp : ¬ (pre ++ [x]) <+: L := fun h => by obtain ⟨_, h2⟩ := hpx.1 h; exact hxy (hy.trans h2)
              have hcase : (y.1 ≠ x.1) ∨ (y.1 = x.1 ∧ y.2.1 ≠ x.2.1) ∨ (y.1 = x.1 ∧ y.2.1 = x.2.1 ∧ y.2.2 ≠ x.2.2) := by
                by_cases h1 : y.1 = x.1
                · by_cases h2 : y.2.1 = x.2.1
                  · exact .inr (.inr ⟨h1, h2, fun h3 => hxy (Prod.ext h1 (Prod.ext h2 h3))⟩)
                  · exact .inr (.inl ⟨h1, h2⟩)
                · exact .inl h1
              have HNP := Lib.hid hnp
              clear hxy hnp hpx hy
              rcases hcase with h1 | ⟨h1, h2⟩ | ⟨h1, h2, h3⟩
              case' inl =>
                have k1 : ((y.1 : Int) == (x.1 : Int)) = false := by simp; omega
                have k1a : (y.1 == x.1) = false := by simpa using h1
                have k1b : ((y.1 : Int) != (x.1 : Int)) = true := by simp; omega
                have k1c : ¬ y.1 = x.1 := h1
                have hqn : (0 : Nat) = 0 := rfl
              case' inr.inl =>
                have k1 : ((y.1 : Int) == (x.1 : Int)) = true := by simp [h1]
                have k2 : (y.2.1 == x.2.1) = false := by simpa using h2
                have hqn : ∀ w, (binOp .neq 36 (.agg #[.int .i64 y.2.1, .bool y.2.2]) (.agg #[.int .i64 x.2.1, .bool x.2.2])).run Try.prog w = .ok (.bool true) w := fun w => by rw [run_neq_place, k2]; rfl
                rw [h1] at e0
              case' inr.inr =>
                have k1 : ((y.1 : Int) == (x.1 : Int)) = true := by simp [h1]
                have k3 : (y.2.2 == x.2.2) = false := by simpa using h3
                have hqn : ∀ w, (binOp .neq 36 (.agg #[.int .i64 x.2.1, .bool y.2.2]) (.agg #[.int .i64 x.2.1, .bool x.2.2])).run Try.prog w = .ok (.bool true) w := fun w => by rw [run_neq_place, k3]; simp
                rw [h1] at e0
                rw [h2] at e1
              all_goals
                gi_wp2
                refine wpIn_region_quiet_round rfl (by kernel_rfl) (by kernel_rfl) (by kernel_rfl) ?_
                repeat (gi_big_quiet_step (fail))
                refine wpQuietIn_nil ?_
                intro _ hw'
                obtain ⟨nq, hw''⟩ := hw'
                subst hw''
                gi_wp2
                exact ⟨(⟨by simp [World.drewN], fun k o hk ho => (KeepsOthers.setCell (W.drewN nq) _ _).same k o hk ho⟩ : KeepsOthers W _).from _, HNP.out⟩
          case done =>
            rintro D3 ys W hD3 rfl ⟨⟨⟨q1, q2, ⟨q3, q4, q5⟩, q6, q7⟩, hK3, hK4⟩, hB⟩ hK5
            rename_i hKK
            refine hKK _ _ ?_
            clear hKK
            obtain ⟨vo, vc, rfl⟩ := (Sl.of_own q3).rd.nil_iff
            have c1 := q1.cell
            have c6 := q6.cell
            have hD3z : D3 < W.heap.size := lt_of_block hK5
            have hBB3 := Lib.hid hB
            have H3 := Lib.hid (And.intro hK3 (And.intro hK4 hK5))
            clear q1 q2 q3 q4 q5 q6 q7 hK3 hK4 hK5 hB
            go_wp2_with fail
            refine (awake09 _).mono ?_
            rintro e w9 ⟨rfl, hb9⟩
            have hB9 := hBB3.out.trans (hb9.mono hBB3.out.size)
            have hrb : Boxed w9 (wo.heap.size + 1) 4 (.bool false) := (hB9.block _ (lt_of_block HRE4.out)).trans HRE4.out
            have cr := hrb.cell
            have fr := hrb.frozen
            have K1 := (hb9.block D (lt_of_block H3.out.1)).trans H3.out.1
            have K2 := (hb9.block D2 (lt_of_block H3.out.2.1)).trans H3.out.2.1
            have K3 := (hb9.block D3 hD3z).trans H3.out.2.2
            have HRB := Lib.hid hrb
            have HK := Lib.hid (And.intro K1 (And.intro K2 K3))
            have HB9 := Lib.hid hB9
            clear hb9 hrb K1 K2 K3 hB9 H3
            go_wp2
            have g1' := HRB.out.set (.bool true)
            have J3 := (KeepsOthers.setCell w9 ⟨wo.heap.size + 1, 0, none⟩ (.bool true)).same D3 _ HK.out.2.2 rfl
            have J2 := (KeepsOthers.setCell w9 ⟨wo.heap.size + 1, 0, none⟩ (.bool true)).same D2 _ HK.out.2.1 rfl
            have J1 := (KeepsOthers.setCell w9 ⟨wo.heap.size + 1, 0, none⟩ (.bool true)).same D _ HK.out.1 rfl
            have hBf : Below wo.heap.size wo (w9.setCell ⟨wo.heap.size + 1, 0, none⟩ (.bool true)) := ((HB5.out.trans (HB9.out.mono (by have := HB5.out.size; omega)))).setCell (p := ⟨wo.heap.size + 1, 0, none⟩) (by simp) _
            generalize (w9.setCell ⟨wo.heap.size + 1, 0, none⟩ (.bool true)) = wf at *
            have hne1 : D2 ≠ D3 := by simp at hD3; omega
            have hne2 : D ≠ D3 := by simp at hD3; omega
            have hne3 : D ≠ D2 := by omega
            have J2' : (wf.putObj D3 (.deferred none)).heap[D2]? = some (.deferred (some [])) := (World.putObj_heap_other hne1).trans J2
            have J1' : ((wf.putObj D3 (.deferred none)).putObj D2 (.deferred none)).heap[D]? = some (.deferred (some [])) := (World.putObj_heap_other hne3).trans ((World.putObj_heap_other hne2).trans J1)
            have b3 := boxed_kept g1' (grownBy_putObj' wf D3 (.deferred none)) (fun r e => by cases e; exact ⟨_, J3, rfl⟩)
            have b2 := boxed_kept b3 (grownBy_putObj' _ D2 (.deferred none)) (fun r e => by cases e; exact ⟨_, J2', rfl⟩)
            have b1 := boxed_kept b2 (grownBy_putObj' _ D (.deferred none)) (fun r e => by cases e; exact ⟨_, J1', rfl⟩)
            have c4 := b1.cell
            have hDo : wo.heap.size ≤ D ∧ wo.heap.size ≤ D2 ∧ wo.heap.size ≤ D3 := by simp at hD hD3; omega
            have hB3f := (hBf.trans (belowK_b (w := wo) (Nat.le_refl _) wf D3 _ (.deferred none) hDo.2.2 J3 rfl rfl)).trans (belowK_b (w := wo) (Nat.le_refl _) _ D2 _ (.deferred none) hDo.2.1 J2' rfl rfl)
            refine ⟨by simp, .inl ⟨_, _, rfl, run_takeDeferred J3, ?_⟩⟩
            refine ⟨by simp, .inl ⟨_, _, rfl, run_takeDeferred J2', ?_⟩⟩
            refine ⟨by simp, .inl ⟨_, _, rfl, run_takeDeferred J1', ?_⟩⟩
            refine ⟨.bool true, ?_, rfl, ?_⟩
            · simp [results, Try.f4, go_sem, c4]
            · exact hB3f.trans (belowK_b (w := wo) (Nat.le_refl _) _ D _ (.deferred none) hDo.1 J1' rfl rfl)

theorem walk (v : Value) (l : List Op9) (f n a : Int) (w : World) (hv : Rd w 4 v l.length (ops9 l)) :
    Calls Try.prog 4 #[v, spanV f n, .int .i64 a] w fun e w' => e = .returned (.bool true) ∧ Below w.heap.size w w' := by
  by_cases h : 80 < l.length ∨ f < 0 ∨ 20 < f ∨ n < 0 ∨ 20 < n ∨ a < 0 ∨ n < a
  · exact early v l f n a w hv h
  · obtain ⟨f', rfl⟩ : ∃ k : Nat, f = k := ⟨f.toNat, by omega⟩
    obtain ⟨n', rfl⟩ : ∃ k : Nat, n = k := ⟨n.toNat, by omega⟩
    obtain ⟨a', rfl⟩ : ∃ k : Nat, a = k := ⟨a.toNat, by omega⟩
    exact main v l f' n' a' w hv (by omega) (by omega) (by omega) (by omega)
theorem own : ownKnob Try.prog.godebug = none := by kernel_rfl

set_option maxRecDepth 100000 in
theorem lifted (os : Os) (started : os.Started) (H : Type) (enc : TypeId × Value → H) :
    ReturnsInHanded {} Try.checked os 4 .any (Rows.indexSpansSpec.pre6 enc Try.prog Try.f4 Rows.indexSpansRow.domain false) (Rows.indexSpansSpec.post enc Try.prog Try.f4 false true false false) := by
  refine returnsInHanded_of_change (C := Try.checked) own started (by kernel_rfl) Try.func4
    (ChangeSpec.witness6 (enc := enc) (C := Try.checked) false ⟨#[], #[.slice none 0 0,spanV 0 0,.int .i64 0], []⟩ 8 (by kernel_rfl) (by kernel_rfl) (by kernel_rfl) (by kernel_rfl)) ?_
  intro W base args ds gs before hval0 hW hcnd _
  have hval : ∀ (j : Nat) t v, Try.f4.params[j]? = some t → args[j]? = some v → Value.okWide Try.prog W .any base t v := hval0
  have hW' := hW
  obtain ⟨p, q, hA0, hV, rfl, hfz, hnd⟩ := hW
  have hA : DataW.TrodAll enc Try.prog W 0 (fun _ => true) true Try.f4.params.toList args.toList ds p := hA0
  rw [Try.params4] at hA hval
  obtain ⟨v0, vs0, d0, ds0, p0, q0, hargs, rfl, rfl, h0, r0⟩ := trodAll_cons hA
  obtain ⟨v1, vs1, d1, ds1, p1, q1, rfl, rfl, rfl, h1, r1⟩ := trodAll_cons r0
  obtain ⟨v2, vs2, d2, ds2, p2, q2, rfl, rfl, rfl, h2, r2⟩ := trodAll_cons r1
  obtain ⟨rfl, rfl, rfl⟩ := trodAll_nil r2
  obtain rfl : args = #[v0, v1, v2] := by cases args; simp_all
  obtain ⟨rfl, rfl⟩ := trodVars_none hV
  obtain ⟨l, hl, _⟩ := open_rd (fun o : Op9 => [.int .i64 o.ask, .int .i64 o.blk, .int .i64 o.slot, .bool o.dirty]) (fun _ => True) (k := 4) (fun _ => rfl) (by decide) Try.underlying22 cells_op9 opEl9 (hval 0 22 v0 rfl rfl) h0
  obtain ⟨f, n, rfl⟩ := open_span9 (hval 1 41 v1 rfl rfl) h1
  obtain ⟨a2, rfl, rfl, rfl, w2⟩ := open_int Try.underlying3 (hval 2 3 v2 rfl rfl) h2
  refine (walk v0 l f n a2 W hl).mono fun e W' ⟨he, hb⟩ => ?_
  subst he
  exact ⟨_, rfl, law_post (T := 4) (by kernel_rfl) (by kernel_rfl) rfl Try.underlying4 rfl rfl hW' hb⟩

theorem over : Rows.indexSpansRow.holds Try.pinned (OpenSpec.ofChange Rows.indexSpansSpec) :=
  OpenClaim.holds_of_wide 4 Try.f4 rfl rfl rfl rfl rfl rfl rfl ⟨rfl, rfl, rfl, rfl, rfl⟩ rfl rfl rfl rfl rfl (by kernel_rfl) Try.func4 (by kernel_rfl)
    (of_decide_eq_true (by kernel_rfl)) (by unfold Func.isWrapper; first | (rw [if_pos (by decide +kernel)]; kernel_rfl) | (rw [if_neg (by decide +kernel)]; exact ⟨rfl, rfl⟩))
    (fun os started H enc _ => lifted os started H enc)

/-- The statement. -/
theorem proved : Rows.IndexSpansSaid :=
  over
end Go.Proofs.Ytmgcekpfnkcmjaa.indexSpans
