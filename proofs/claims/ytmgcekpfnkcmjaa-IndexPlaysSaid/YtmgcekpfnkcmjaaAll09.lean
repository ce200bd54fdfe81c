/- 'all': the blocks of a span are the document's. -/
import Derived.Test.YtmgcekpfnkcmjaaAllPlain
import Derived.Test.YtmgcekpfnkcmjaaCount09
import Derived.Test.YtmgcekpfnkcmjaaQuietR
import Derived.Test.YtmgcekpfnkcmjaaSpansE
namespace Go.Proofs.Ytmgcekpfnkcmjaa
open Go Go.RowKit Go.Shelf
attribute [local go_sem] Oper.semAt_some

set_option maxRecDepth 100000 in
set_option maxHeartbeats 8000000 in
theorem all9 {w : World} {b mb N : Nat} {v : Value} {ps : List (Int × Bool)} {slots : Nat} {rb : Nat} {vs vd : Value} {sl2 : Nat} (h : IndexAt w b v mb N ps slots) (hr : RefAt w rb vs vd ps sl2) (f n : Nat) (hf : (f : Int) ≤ 9223372036854775807) (hn : (n : Int) ≤ 9223372036854775807) :
    Calls Try.prog 22 #[.pointer (some ⟨b, 0, none⟩), .pointer (some ⟨rb, 0, none⟩), spanV f n] w fun e w' => e = .returned (.bool true) ∧ Below w.heap.size w w' := by
  have qf := eql_func_nil9s
  have hg := h.good
  have hle := h.le
  have hu0 : Upd (fun _ => False) w (((w.alloc (.cells #[.pointer (some ⟨rb, 0, none⟩)] 29)).alloc (.cells #[.int .i64 f, .int .i64 n] 41)).alloc (.cells #[.bool false] 4)) := (((Upd.refl _ _).alloc _).alloc _).alloc _
  have hI0 := h.keep hu0 (fun h => h) (fun _ _ h => h)
  have hR0 := hr.keep hu0 (fun h => h) (fun _ _ h => h)
  have hB0 : Below w.heap.size w (((w.alloc (.cells #[.pointer (some ⟨rb, 0, none⟩)] 29)).alloc (.cells #[.int .i64 f, .int .i64 n] 41)).alloc (.cells #[.bool false] 4)) := (((Below.refl _ w).alloc (Nat.le_refl _) _).alloc (by simp) _).alloc (by simp; omega) _
  have hbr : (((w.alloc (.cells #[.pointer (some ⟨rb, 0, none⟩)] 29)).alloc (.cells #[.int .i64 f, .int .i64 n] 41)).alloc (.cells #[.bool false] 4)).heap[w.heap.size]? = some (.cells #[.pointer (some ⟨rb, 0, none⟩)] 29) :=
    ((((Upd.refl (fun _ => False) _).alloc (.cells #[.int .i64 f, .int .i64 n] 41)).alloc (.cells #[.bool false] 4)).block _ (by simp) (fun h => h)).trans (heap_alloc_last w _ rfl)
  have hbs : (((w.alloc (.cells #[.pointer (some ⟨rb, 0, none⟩)] 29)).alloc (.cells #[.int .i64 f, .int .i64 n] 41)).alloc (.cells #[.bool false] 4)).heap[w.heap.size + 1]? = some (.cells #[.int .i64 f, .int .i64 n] 41) :=
    (((Upd.refl (fun _ => False) _).alloc (.cells #[.bool false] 4)).block _ (by simp) (fun h => h)).trans (heap_alloc_last _ _ (by simp))
  have hbb : (((w.alloc (.cells #[.pointer (some ⟨rb, 0, none⟩)] 29)).alloc (.cells #[.int .i64 f, .int .i64 n] 41)).alloc (.cells #[.bool false] 4)).heap[w.heap.size + 2]? = some (.cells #[.bool false] 4) := heap_alloc_last _ _ (by simp)
  have HI0 := Lib.hid hI0
  have HR0 := Lib.hid hR0
  have HBR := Lib.hid hbr
  have HBS := Lib.hid hbs
  have HBB := Lib.hid hbb
  have HB0 := Lib.hid hB0
  clear h hr hu0 hI0 hR0 hB0 hbr hbs hbb
  refine (callsIn_wide (n := 4)).1 ?_
  refine callsIn_of_wp_marks Try.func22 rfl trivial ?_ rfl
  simp only [Try.ntmps22, List.size_toArray, List.length_cons, List.length_nil, Nat.reduceAdd, Nat.reduceSub, Array.replicate_succ, Array.replicate_zero, List.push_toArray, List.append_toArray, List.nil_append, List.cons_append]
  refine wpIn_wide.2 ?_
  go_wp2_with fail
  refine (all_span HI0.out f n).mono ?_
  rintro e w1 ⟨gf, lb, rfl, hgv, hb1⟩
  have hR1 := HR0.out.below hb1
  have hbr1 := (hb1.block _ (lt_of_block HBR.out)).trans HBR.out
  have hbs1 := (hb1.block _ (lt_of_block HBS.out)).trans HBS.out
  have hbb1 := (hb1.block _ (lt_of_block HBB.out)).trans HBB.out
  have hB1 := HB0.out.trans (hb1.mono HB0.out.size)
  have HR1 := Lib.hid hR1
  have HBR1 := Lib.hid hbr1
  have HBS1 := Lib.hid hbs1
  have HBB1 := Lib.hid hbb1
  have HB1 := Lib.hid hB1
  have HGV := Lib.hid hgv
  have hz1 : w.heap.size + 2 < w1.heap.size := lt_of_block hbb1
  clear hR1 hbr1 hbs1 hbb1 hB1 hb1 hgv
  have hbz0 : Below w1.heap.size w1 ((w1.alloc (.cells #[.int .i64 0] 3)).alloc (.cells #[.int .i64 (-1)] 3)) := ((Below.refl _ w1).alloc (Nat.le_refl _) _).alloc (by simp) _
  have hlen := items_len ps f n
  go_wp2
  refine (wpIn_wide (n := 4)).1 ?_
  refine' wpIn_rangeFunc_ownH rfl (by omega) (gf := gf) (lb := lb) rfl trivial HGV.out.1
    (HGV.out.2 3 (by omega) (fun j => w1.heap.size ≤ j) (fun j h => h) _ hbz0) upd_t (fun W l o o' hl => upd_b (M := w1.heap.size) (fun j h => h) W l o o' (by simp at hl; omega)) (Below.refl _ _) (fun _ => rfl)
    (fun pre W => (Boxed W w1.heap.size 3 (.int .i64 (pre.length : Int)) ∧ Boxed W (w1.heap.size + 1) 3 (.int .i64 (lastI pre))) ∧ Below w1.heap.size w1 W)
    (fun _ pre _ => ∃ p x, pre = p ++ [x] ∧ ¬ OkAt ps f n p x)
    (OwnFrom.and (Own.from (I := fun (s : List It9) X => Boxed X w1.heap.size 3 (.int .i64 (s.length : Int)) ∧ Boxed X (w1.heap.size + 1) 3 (.int .i64 (lastI s))) (fun s X Y row hs hg hr => ⟨boxed_kept hs.1 hg hr, boxed_kept hs.2 hg hr⟩) _) (ownFrom_below (Nat.le_refl _) (by simp; omega)))
    (fun _ => ownFrom_pure _ _)
    ⟨⟨(Boxed.new w1 _ _).alloc _, heap_alloc_last _ _ (by simp)⟩, hbz0⟩
    (fun x a' W => ∃ pb, a' = (_ : It9 → Nat → Act) x pb ∧ plBox x pb W)
    (fun x a' => fun s X Y row hs hg hr => by obtain ⟨pb, e, hp⟩ := hs; exact ⟨pb, e, plBox_own _ x pb () X Y row hp hg hr⟩)
    ?assign ?body ?done ?stop
  case assign =>
    rintro l' pre x W K ⟨⟨q1, q2⟩, hB⟩ hK
    gi_wp2
    have hu : Upd (fun j => w1.heap.size ≤ j) W (W.alloc (.cells #[.int .i64 x.2.1, .bool x.2.2] 36)) := (Upd.refl _ _).alloc _
    refine hK _ _ (KeepsFrom.of_grownBy (World.grownBy_alloc W _ none) (fun j e => by cases e)) hu ⟨⟨q1.alloc _, q2.alloc _⟩, hB.alloc hB.size _⟩ ⟨W.heap.size, ?_, heap_alloc_last W _ rfl⟩
    generalize W.heap.size = pb
    exact rfl
  case stop =>
    rintro D3 c pre W _ hsp ⟨p, x, rfl, hno⟩ _
    exact absurd (items_ok hg hsp) hno
  case body =>
    rintro l' pre ⟨xb, xs, xd⟩ a' W hl _ ⟨⟨q1, q2⟩, hB⟩ ⟨pb, rfl, hp⟩ hlt
    have hlast := lastI_le pre
    obtain ⟨L, hL⟩ : ∃ L, L = lastI pre := ⟨_, rfl⟩
    rw [← hL] at q2 hlast
    have hRW := HR1.out.below hB
    have hWz := hB.size
    have c1 := q1.cell
    have f1 := q1.frozen
    have c2 := q2.cell
    have f2 := q2.frozen
    have hbrW := (hB.block _ (lt_of_block HBR1.out)).trans HBR1.out
    have hbsW := (hB.block _ (lt_of_block HBS1.out)).trans HBS1.out
    have hbbW := (hB.block _ (lt_of_block HBB1.out)).trans HBB1.out
    have k0 := cell_of_block hbrW 0
    have s0 := cell_of_block hbsW 0
    have s1 := cell_of_block hbsW 1
    have r0 := cell_of_block hbbW 0
    have r1 := frozen_of_block hbbW 0
    have hp0 := cell_of_block hp 0
    have hp1 := cell_of_block hp 1
    have g0 := cell_of_block hRW.str 0
    have g1 := cell_of_block hRW.str 1
    simp at k0 s0 s1 r0 hp0 hp1 g0 g1
    have hpl : (pre.length : Int) ≤ 4096 := by omega
    have HQ := Lib.hid (And.intro q1 q2)
    have HBW := Lib.hid hB
    have HRr : ∀ rv, rv = decide (0 ≤ (xb : Int) ∧ (xb : Int) < ps.length) → ∀ m, Calls Try.prog 58 #[.pointer (some ⟨rb, 0, none⟩), .int .i64 xb] (W.drewN m) fun e w' => e = .returned (.bool rv) ∧ w' = W.drewN m := fun rv e m => by
      rw [e]; exact right_any (hRW.keep ((Upd.refl (fun _ => False) W).drewN m) (fun h => h) (fun _ _ h => h)) xb
    have HRR := Lib.hid HRr
    obtain ⟨so, sc, hvs⟩ := hRW.ss.rd.nil_iff
    obtain ⟨eo, ec, hvd⟩ := hRW.ds.rd.nil_iff
    have HRW := Lib.hid hRW
    clear HRr q1 q2 hB hbrW hbsW hbbW hp hRW
    by_cases a1 : (xb : Int) ≤ L
    · have hno : Hid (¬ OkAt ps f n pre (xb, xs, xd)) := fun ⟨h1, _⟩ => by rw [← hL] at h1; simp only at h1; omega
      have b1 : decide ((xb : Int) ≤ L) = true := by simpa using a1
      have HR := Lib.hid (HRR.out _ rfl)
      subst hvs hvd
      clear hL
      gi_wp2
      refine wpIn_region_quiet_round rfl (by kernel_rfl) (by kernel_rfl) (by kernel_rfl) ?_
      repeat (first
        | gi_big_quiet_step (fail)
        | (refine Go.BigFrame.wpQuietIn_skip (fun _ _ _ _ => trivial) rfl ?_; simp only [Act.put, List.setIfInBounds_toArray, List.set_cons_succ, List.set_cons_zero])
        | (refine Go.BigFrame.wpQuietIn_want (fun _ _ _ _ => trivial) rfl ?_; intro K hK; gi_big_quiet_op; gi_big_quiet_call (((try refine ⟨rfl, ?_⟩); refine CallsIn.mono (callsIn_wide.2 (HR.out _)) ?_; rintro e wq ⟨rfl, rfl⟩; exact ⟨rfl, _, rfl⟩))))
      refine wpQuietIn_nil ?_
      intro _ hw'
      obtain ⟨nq, hw''⟩ := hw'
      subst hw''
      gi_wp2
      exact ⟨(⟨by simp [World.drewN], fun k o hk ho => (KeepsOthers.setCell (W.drewN nq) _ _).same k o hk ho⟩ : KeepsOthers W _).from _, pre, (xb, xs, xd), rfl, hno.out⟩
    · have b1 : decide ((xb : Int) ≤ L) = false := by simpa using a1
      have HL : Hid (L = lastI pre) := hL
      clear hL
      by_cases a2 : xb < ps.length
      case' neg =>
        have hno : Hid (¬ OkAt ps f n pre (xb, xs, xd)) := fun ⟨_, h2, _⟩ => a2 h2
        have HR := Lib.hid (HRR.out false (by simp; omega))
        subst hvs hvd
        gi_wp2
        refine wpIn_region_quiet_round rfl (by kernel_rfl) (by kernel_rfl) (by kernel_rfl) ?_
        repeat (first
          | gi_big_quiet_step (fail)
          | (refine Go.BigFrame.wpQuietIn_skip (fun _ _ _ _ => trivial) rfl ?_; simp only [Act.put, List.setIfInBounds_toArray, List.set_cons_succ, List.set_cons_zero])
          | (refine Go.BigFrame.wpQuietIn_want (fun _ _ _ _ => trivial) rfl ?_; intro K hK; gi_big_quiet_op; gi_big_quiet_call (((try refine ⟨rfl, ?_⟩); refine CallsIn.mono (callsIn_wide.2 (HR.out _)) ?_; rintro e wq ⟨rfl, rfl⟩; exact ⟨rfl, _, rfl⟩))))
        refine wpQuietIn_nil ?_
        intro _ hw'
        obtain ⟨nq, hw''⟩ := hw'
        subst hw''
        gi_wp2
        exact ⟨(⟨by simp [World.drewN], fun k o hk ho => (KeepsOthers.setCell (W.drewN nq) _ _).same k o hk ho⟩ : KeepsOthers W _).from _, pre, (xb, xs, xd), rfl, hno.out⟩
      have HR := Lib.hid (HRR.out true (by simp; omega))
      by_cases a3 : (xb : Int) < f
      case' pos =>
        have hno : Hid (¬ OkAt ps f n pre (xb, xs, xd)) := fun ⟨_, _, h3, _⟩ => by simp only at h3; omega
        have b3 : decide ((xb : Int) < (f : Int)) = true := by simpa using a3
        subst hvs hvd
        gi_wp2
        refine wpIn_region_quiet_round rfl (by kernel_rfl) (by kernel_rfl) (by kernel_rfl) ?_
        repeat (first
          | gi_big_quiet_step (fail)
          | (refine Go.BigFrame.wpQuietIn_skip (fun _ _ _ _ => trivial) rfl ?_; simp only [Act.put, List.setIfInBounds_toArray, List.set_cons_succ, List.set_cons_zero])
          | (refine Go.BigFrame.wpQuietIn_want (fun _ _ _ _ => trivial) rfl ?_; intro K hK; gi_big_quiet_op; gi_big_quiet_call (((try refine ⟨rfl, ?_⟩); refine CallsIn.mono (callsIn_wide.2 (HR.out _)) ?_; rintro e wq ⟨rfl, rfl⟩; exact ⟨rfl, _, rfl⟩))))
        refine wpQuietIn_nil ?_
        intro _ hw'
        obtain ⟨nq, hw''⟩ := hw'
        subst hw''
        gi_wp2
        exact ⟨(⟨by simp [World.drewN], fun k o hk ho => (KeepsOthers.setCell (W.drewN nq) _ _).same k o hk ho⟩ : KeepsOthers W _).from _, pre, (xb, xs, xd), rfl, hno.out⟩
      have b3 : decide ((xb : Int) < (f : Int)) = false := by simpa using a3
      have b3n : decide (xb < f) = false := by simp; omega
      have y1 : (0 : Int) ≤ (xb : Int) - f := by omega
      have y2 : (xb : Int) - f ≤ 4096 := by omega
      by_cases a4 : (n : Int) ≤ (xb : Int) - f
      case' pos =>
        have hno : Hid (¬ OkAt ps f n pre (xb, xs, xd)) := fun ⟨_, _, h3, h4, _⟩ => by simp only at h3 h4; omega
        have b4 : decide ((n : Int) ≤ (xb : Int) - (f : Int)) = true := by simpa using a4
        subst hvs hvd
        gi_wp2
        refine wpIn_region_quiet_round rfl (by kernel_rfl) (by kernel_rfl) (by kernel_rfl) ?_
        repeat (first
          | gi_big_quiet_step (fail)
          | (refine Go.BigFrame.wpQuietIn_skip (fun _ _ _ _ => trivial) rfl ?_; simp only [Act.put, List.setIfInBounds_toArray, List.set_cons_succ, List.set_cons_zero])
          | (refine Go.BigFrame.wpQuietIn_want (fun _ _ _ _ => trivial) rfl ?_; intro K hK; gi_big_quiet_op; gi_big_quiet_call (((try refine ⟨rfl, ?_⟩); refine CallsIn.mono (callsIn_wide.2 (HR.out _)) ?_; rintro e wq ⟨rfl, rfl⟩; exact ⟨rfl, _, rfl⟩))))
        refine wpQuietIn_nil ?_
        intro _ hw'
        obtain ⟨nq, hw''⟩ := hw'
        subst hw''
        gi_wp2
        exact ⟨(⟨by simp [World.drewN], fun k o hk ho => (KeepsOthers.setCell (W.drewN nq) _ _).same k o hk ho⟩ : KeepsOthers W _).from _, pre, (xb, xs, xd), rfl, hno.out⟩
      have b4 : decide ((n : Int) ≤ (xb : Int) - (f : Int)) = false := by simpa using a4
      obtain ⟨gs, os, cs, gd, od, cd, hv1, hv2, ⟨p0, _⟩, ⟨p1, _⟩, _, _⟩ := HRW.out.at a2
      obtain ⟨z, hz⟩ : ∃ z, z = ps[xb] := ⟨_, rfl⟩
      rw [← hz] at p0 p1
      have x0 : (0 : Int) ≤ (xb : Int) := by omega
      have x1 : (xb : Int) < (ps.length : Int) := by omega
      have HA2 : Hid (∃ h : xb < ps.length, z = ps[xb]) := ⟨a2, hz⟩
      clear hz
      subst hv1 hv2
      clear hvs hvd
      by_cases a5 : xs = z.1
      case' neg =>
        have hno : Hid (¬ OkAt ps f n pre (xb, xs, xd)) := fun ⟨_, h2, _, _, h5, _⟩ => by
          obtain ⟨_, h7⟩ := HA2.out
          exact a5 (by rw [h7]; exact congrArg Prod.fst h5)
        have b5 : (xs == z.1) = false := by simpa using a5
        have b5a : (xs != z.1) = true := by simpa using a5
        have b5b : decide (xs = z.1) = false := by simpa using a5
        gi_wp2
        refine wpIn_region_quiet_round rfl (by kernel_rfl) (by kernel_rfl) (by kernel_rfl) ?_
        repeat (first
          | gi_big_quiet_step (fail)
          | (refine Go.BigFrame.wpQuietIn_skip (fun _ _ _ _ => trivial) rfl ?_; simp only [Act.put, List.setIfInBounds_toArray, List.set_cons_succ, List.set_cons_zero])
          | (refine Go.BigFrame.wpQuietIn_want (fun _ _ _ _ => trivial) rfl ?_; intro K hK; gi_big_quiet_op; gi_big_quiet_call (((try refine ⟨rfl, ?_⟩); refine CallsIn.mono (callsIn_wide.2 (HR.out _)) ?_; rintro e wq ⟨rfl, rfl⟩; exact ⟨rfl, _, rfl⟩))))
        refine wpQuietIn_nil ?_
        intro _ hw'
        obtain ⟨nq, hw''⟩ := hw'
        subst hw''
        gi_wp2
        exact ⟨(⟨by simp [World.drewN], fun k o hk ho => (KeepsOthers.setCell (W.drewN nq) _ _).same k o hk ho⟩ : KeepsOthers W _).from _, pre, (xb, xs, xd), rfl, hno.out⟩
      subst a5
      by_cases a6 : z.1 < 0
      case' pos =>
        have hno : Hid (¬ OkAt ps f n pre (xb, z.1, xd)) := fun ⟨_, _, _, _, _, h6⟩ => by simp only at h6; omega
        have b6 : decide (z.1 < 0) = true := by simpa using a6
        gi_wp2
        refine wpIn_region_quiet_round rfl (by kernel_rfl) (by kernel_rfl) (by kernel_rfl) ?_
        repeat (first
          | gi_big_quiet_step (fail)
          | (refine Go.BigFrame.wpQuietIn_skip (fun _ _ _ _ => trivial) rfl ?_; simp only [Act.put, List.setIfInBounds_toArray, List.set_cons_succ, List.set_cons_zero])
          | (refine Go.BigFrame.wpQuietIn_want (fun _ _ _ _ => trivial) rfl ?_; intro K hK; gi_big_quiet_op; gi_big_quiet_call (((try refine ⟨rfl, ?_⟩); refine CallsIn.mono (callsIn_wide.2 (HR.out _)) ?_; rintro e wq ⟨rfl, rfl⟩; exact ⟨rfl, _, rfl⟩))))
        refine wpQuietIn_nil ?_
        intro _ hw'
        obtain ⟨nq, hw''⟩ := hw'
        subst hw''
        gi_wp2
        exact ⟨(⟨by simp [World.drewN], fun k o hk ho => (KeepsOthers.setCell (W.drewN nq) _ _).same k o hk ho⟩ : KeepsOthers W _).from _, pre, (xb, z.1, xd), rfl, hno.out⟩
      have b6 : decide (z.1 < 0) = false := by simpa using a6
      by_cases a7 : xd = z.2
      case' neg =>
        have hno : Hid (¬ OkAt ps f n pre (xb, z.1, xd)) := fun ⟨_, h2, _, _, h5, _⟩ => by
          obtain ⟨_, h7⟩ := HA2.out
          exact a7 (by rw [h7]; exact congrArg Prod.snd h5)
        have b7 : (xd == z.2) = false := by simpa using a7
        have b7a : (xd != z.2) = true := by simpa using a7
        have b7b : decide (xd = z.2) = false := by simpa using a7
        gi_wp2
        refine wpIn_region_quiet_round rfl (by kernel_rfl) (by kernel_rfl) (by kernel_rfl) ?_
        repeat (first
          | gi_big_quiet_step (fail)
          | (refine Go.BigFrame.wpQuietIn_skip (fun _ _ _ _ => trivial) rfl ?_; simp only [Act.put, List.setIfInBounds_toArray, List.set_cons_succ, List.set_cons_zero])
          | (refine Go.BigFrame.wpQuietIn_want (fun _ _ _ _ => trivial) rfl ?_; intro K hK; gi_big_quiet_op; gi_big_quiet_call (((try refine ⟨rfl, ?_⟩); refine CallsIn.mono (callsIn_wide.2 (HR.out _)) ?_; rintro e wq ⟨rfl, rfl⟩; exact ⟨rfl, _, rfl⟩))))
        refine wpQuietIn_nil ?_
        intro _ hw'
        obtain ⟨nq, hw''⟩ := hw'
        subst hw''
        gi_wp2
        exact ⟨(⟨by simp [World.drewN], fun k o hk ho => (KeepsOthers.setCell (W.drewN nq) _ _).same k o hk ho⟩ : KeepsOthers W _).from _, pre, (xb, z.1, xd), rfl, hno.out⟩
      subst a7
      gi_wp2
      refine wpIn_region_quiet_round rfl (by kernel_rfl) (by kernel_rfl) (by kernel_rfl) ?_
      repeat (first
        | gi_big_quiet_step (fail)
        | (refine Go.BigFrame.wpQuietIn_skip (fun _ _ _ _ => trivial) rfl ?_; simp only [Act.put, List.setIfInBounds_toArray, List.set_cons_succ, List.set_cons_zero])
        | (refine Go.BigFrame.wpQuietIn_want (fun _ _ _ _ => trivial) rfl ?_; intro K hK; gi_big_quiet_op; gi_big_quiet_call (((try refine ⟨rfl, ?_⟩); refine CallsIn.mono (callsIn_wide.2 (HR.out _)) ?_; rintro e wq ⟨rfl, rfl⟩; exact ⟨rfl, _, rfl⟩))))
      refine wpQuietIn_nil ?_
      intro _ hw'
      obtain ⟨nq, hw''⟩ := hw'
      subst hw''
      gi_wp2
      have hln : ((pre.length : Int) + 1) = (((pre ++ [(xb, z.1, z.2)]).length : Nat) : Int) := by simp
      rw [hln]
      have hla : ((xb : Nat) : Int) = lastI (pre ++ [(xb, z.1, z.2)]) := (lastI_snoc pre (xb, z.1, z.2)).symm
      rw [hla]
      refine ⟨(⟨by simp [World.drewN], fun k o hk ho => (KeepsOthers.setCell _ _ _).same k o ((KeepsOthers.setCell (W.drewN nq) _ _).same k o hk ho) ho⟩ : KeepsOthers W _).from _, ((((Upd.refl (fun j => w1.heap.size ≤ j) W).drewN nq).setCell ⟨w1.heap.size + 1, 0, none⟩ (fun _ => by simp) _).setCell ⟨w1.heap.size, 0, none⟩ (fun _ => by simp) _), ⟨?_, ?_⟩, ((below_drewN HBW.out nq).setCell (p := ⟨w1.heap.size + 1, 0, none⟩) (by simp) _).setCell (p := ⟨w1.heap.size, 0, none⟩) (by simp) _⟩
      · exact ((show Boxed (W.drewN nq) w1.heap.size 3 _ from HQ.out.1).other (by omega) _).set _
      · exact ((show Boxed (W.drewN nq) (w1.heap.size + 1) 3 _ from HQ.out.2).set _).other (by omega) _
  case done =>
    rintro D ys W hD rfl ⟨⟨q1, q2⟩, hB⟩ hK
    rename_i hKK
    refine hKK _ _ ?_
    clear hKK
    have hRW := HR1.out.below hB
    have hWz := hB.size
    have hbrW := (hB.block _ (lt_of_block HBR1.out)).trans HBR1.out
    have hbsW := (hB.block _ (lt_of_block HBS1.out)).trans HBS1.out
    have hbbW : Boxed W (w.heap.size + 2) 4 (.bool false) := (hB.block _ (lt_of_block HBB1.out)).trans HBB1.out
    have c1 := q1.cell
    have k0 := cell_of_block hbrW 0
    have s0 := cell_of_block hbsW 0
    have s1 := cell_of_block hbsW 1
    have r0 := hbbW.cell
    have r1 := hbbW.frozen
    have g0 := cell_of_block hRW.str 0
    simp at k0 s0 s1 g0
    have HBBW := Lib.hid hbbW
    have HBW := Lib.hid hB
    have HK := Lib.hid hK
    have HRW := Lib.hid hRW
    have hzD : w1.heap.size ≤ D := by simp at hD; omega
    obtain ⟨so, sc, rfl⟩ := hRW.ss.rd.nil_iff
    clear q1 q2 hB hK hbrW hbsW hbbW hRW hD
    obtain ⟨wb, rfl⟩ : ∃ wb : World, wb = W := ⟨_, rfl⟩
    go_wp2_with fail
    go_loopg [12, 13] ps.length (fun g wt bi wr => ∃ k : Nat, k + g = ps.length ∧ wt = .int .i64 (wantTo ps f n k : Int) ∧ bi = .int .i64 k ∧ wr = wb)
    case atStart => exact ⟨0, by omega, by rw [wantTo_zero]; rfl, rfl, rfl⟩
    case round =>
      obtain ⟨k, hk, rfl, rfl, rfl⟩ := hrel
      have hwl : (wantTo ps f n k : Int) ≤ 4096 := by
        have := wantTo_le ps f n k
        have h2 : (spanL ps f n).length ≤ ps.length := by simp [spanL]; omega
        omega
      by_cases hlt : k < ps.length
      · obtain ⟨gs, os, cs, gd, od, cd, hv1, _, ⟨p0, _⟩, _, _, _⟩ := HRW.out.at hlt
        cases hv1
        rcases hg.each k hlt with hp | ⟨hp0, _⟩
        · have HM : Hid (wantTo ps f n (k + 1) = wantTo ps f n k) := by
            show _ = _
            by_cases h1 : k < f ∨ n ≤ k - f
            · exact wantTo_out h1 hlt
            · rw [wantTo_in (by omega) (by omega) hlt, if_pos hp]; rfl
          rw [hp] at p0
          clear hp
          go_wp2
          go_roundg (gk - 1)
          case measure => omega
          case rel => exact ⟨k + 1, by omega, by rw [HM.out], by go_num, rfl⟩
        · obtain ⟨sv, hsv⟩ : ∃ sv, sv = ps[k].1 := ⟨_, rfl⟩
          have hne : ps[k] ≠ (-1, false) := fun e => by rw [e] at hp0; simp at hp0
          rw [← hsv] at p0 hp0
          have hs0 : ¬ sv < 0 := by omega
          by_cases h1 : k < f
          · have HM : Hid (wantTo ps f n (k + 1) = wantTo ps f n k) := wantTo_out (.inl h1) hlt
            have i1 : (k : Int) < f := by omega
            clear hsv hne
            go_wp2
            go_roundg (gk - 1)
            case measure => omega
            case rel => exact ⟨k + 1, by omega, by rw [HM.out], by go_num, rfl⟩
          · have i1 : ¬ (k : Int) < f := by omega
            have j1 : (0 : Int) ≤ (k : Int) - f := by omega
            have j2 : (k : Int) - f ≤ 4096 := by omega
            by_cases h2 : n ≤ k - f
            · have HM : Hid (wantTo ps f n (k + 1) = wantTo ps f n k) := wantTo_out (.inr h2) hlt
              have i2 : ¬ (k : Int) - f < n := by omega
              clear hsv hne
              go_wp2
              go_roundg (gk - 1)
              case measure => omega
              case rel => exact ⟨k + 1, by omega, by rw [HM.out], by go_num, rfl⟩
            · have HM : Hid (wantTo ps f n (k + 1) = wantTo ps f n k + 1) := by show _ = _; rw [wantTo_in (by omega) (by omega) hlt, if_neg hne]
              have i2 : (k : Int) - f < n := by omega
              clear hsv hne
              go_wp2
              go_roundg (gk - 1)
              case measure => omega
              case rel => exact ⟨k + 1, by omega, by rw [HM.out]; simp, by go_num, rfl⟩
      · obtain rfl : k = ps.length := by omega
        have hwe := wantTo_end ps f n
        rw [hwe]
        clear hwe hwl
        go_wp2
        have g1' := HBBW.out.set (.bool true)
        have K2 := (KeepsOthers.setCell wr ⟨w.heap.size + 2, 0, none⟩ (.bool true)).same D _ HK.out rfl
        have c4 := cell_kept g1'.cell (grownBy_putObj' _ D (.deferred none)) (fun r e => by cases e; exact ⟨_, K2, rfl⟩)
        refine ⟨by simp, .inl ⟨_, _, rfl, run_takeDeferred K2, ?_⟩⟩
        refine ⟨.bool true, ?_, rfl, ?_⟩
        · simp [results, Try.f22, go_sem, c4]
        · have hBf : Below w.heap.size w (wr.setCell ⟨w.heap.size + 2, 0, none⟩ (.bool true)) := (HB1.out.trans (HBW.out.mono HB1.out.size)).setCell (p := ⟨w.heap.size + 2, 0, none⟩) (by simp) _
          exact hBf.trans (belowK_b (w := w) (Nat.le_refl _) _ D _ (.deferred none) (by omega) K2 rfl rfl)
end Go.Proofs.Ytmgcekpfnkcmjaa
