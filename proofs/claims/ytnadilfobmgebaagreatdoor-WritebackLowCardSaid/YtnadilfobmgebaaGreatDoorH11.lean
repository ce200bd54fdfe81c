/- A record's numbers. A journal: Room, Add. A journal: Commit. A journal: Commit, the whole. -/
import Derived.Test.YtnadilfobmgebaaGreatDoorH10
import Derived.Test.YtnadilfobmgebaaGreatDoorH08
import Derived.Test.YtnadilfobmgebaaGreatDoorH02
import Derived.Test.YtnadilfobmgebaaGreatDoorH07
import Derived.Deep.DrawnRows
import Derived.Test.YtnadilfobmgebaaGreatDoorH04
namespace Go.Proofs.YtnadilfobmgebaaGreatDoor
open Go Go.RowKit
abbrev recC (a0 a1 a2 a3 a4 : Int) (d : Bool) (a6 : Int) : List Value := [.int .i64 a0, .int .i64 a1, .int .i64 a2, .int .i64 a3, .int .i64 a4, .bool d, .int .i64 a6]
abbrev recX (a0 a1 a2 a3 a4 : Int) (d : Bool) (a6 : Int) : List Int := [a0, a1, a2, a3, a4, (bitN d : Int), a6]
set_option maxRecDepth 100000 in
set_option maxHeartbeats 2000000 in
theorem tellR (a0 a1 a2 a3 a4 : Int) (d : Bool) (a6 : Int) (w : World) : Calls Tryz.prog 234 #[.agg (recC a0 a1 a2 a3 a4 d a6).toArray] w (TellPostC w 7 (recX a0 a1 a2 a3 a4 d a6)) := by
  obtain ⟨L, hL⟩ : ∃ L, L = (recC a0 a1 a2 a3 a4 d a6).toArray := ⟨_, rfl⟩
  have hg := heap_alloc_last w (.cells L 225) rfl
  have c0 : (w.alloc (.cells L 225)).cell? ⟨w.heap.size, 0, none⟩ = some (.int .i64 a0) := (cell_of_block hg 0).trans (by rw [hL]; rfl)
  have c1 : (w.alloc (.cells L 225)).cell? ⟨w.heap.size, 1, none⟩ = some (.int .i64 a1) := (cell_of_block hg 1).trans (by rw [hL]; rfl)
  have c2 : (w.alloc (.cells L 225)).cell? ⟨w.heap.size, 2, none⟩ = some (.int .i64 a2) := (cell_of_block hg 2).trans (by rw [hL]; rfl)
  have c3 : (w.alloc (.cells L 225)).cell? ⟨w.heap.size, 3, none⟩ = some (.int .i64 a3) := (cell_of_block hg 3).trans (by rw [hL]; rfl)
  have c4 : (w.alloc (.cells L 225)).cell? ⟨w.heap.size, 4, none⟩ = some (.int .i64 a4) := (cell_of_block hg 4).trans (by rw [hL]; rfl)
  have c5 : (w.alloc (.cells L 225)).cell? ⟨w.heap.size, 5, none⟩ = some (.bool d) := (cell_of_block hg 5).trans (by rw [hL]; rfl)
  have c6 : (w.alloc (.cells L 225)).cell? ⟨w.heap.size, 6, none⟩ = some (.int .i64 a6) := (cell_of_block hg 6).trans (by rw [hL]; rfl)
  rw [← hL]
  have hb : Below w.heap.size w (w.alloc (.cells L 225)) := (Below.refl _ _).alloc (Nat.le_refl _) _
  have HB := Lib.hid hb
  clear hg hL hb
  go_enter Tryz.func234, Tryz.ntmps234
  go_wp2
  generalize w.alloc (.cells L 225) = w1 at *
  obtain ⟨m, hm⟩ : ∃ m, m = w.heap.size := ⟨_, rfl⟩
  rw [← hm] at c0 c1 c2 c3 c4 c5 c6 ⊢
  have HM := Lib.hid hm
  clear hm
  refine wp_region_held_drew (S := fun W => W.cell? ⟨m, 0, none⟩ = some (.int .i64 a0) ∧ W.cell? ⟨m, 1, none⟩ = some (.int .i64 a1) ∧ W.cell? ⟨m, 2, none⟩ = some (.int .i64 a2) ∧ W.cell? ⟨m, 3, none⟩ = some (.int .i64 a3) ∧ W.cell? ⟨m, 4, none⟩ = some (.int .i64 a4) ∧ W.cell? ⟨m, 5, none⟩ = some (.bool d) ∧ W.cell? ⟨m, 6, none⟩ = some (.int .i64 a6)) (by kernel_rfl) (by (simp only [World.cell?_drew]); exact ⟨c0, c1, c2, c3, c4, c5, c6⟩) (fun hHeld => ?_)
  refine Wl.i [0, 1, 2, 3, 4, 5, 6, 7, 8, 9, 10, 11, 13, 14] ?_; iterate 14 refine Wl.t hHeld ?_
  refine Wl.o ?_
  refine Wl.r 12 (fun K hK => ?_)
  go_simp
  refine (bit_any d _).mono ?_
  rintro e w3 ⟨rfl, h3⟩
  rw [← h3]
  clear h3 w3
  refine hK.out _ _ (hHeld) (fun hH1 => ?_)
  clear hK K
  refine Wl.r 15 (fun K hK => ?_)
  go_simp
  refine hK.out _ _ (⟨cell_keep_alloc hH1.1 _, cell_keep_alloc hH1.2.1 _, cell_keep_alloc hH1.2.2.1 _, cell_keep_alloc hH1.2.2.2.1 _, cell_keep_alloc hH1.2.2.2.2.1 _, cell_keep_alloc hH1.2.2.2.2.2.1 _, cell_keep_alloc hH1.2.2.2.2.2.2 _⟩) (fun hH2 => ?_)
  clear hK K
  refine Wl.r 16 (fun K hK => ?_)
  go_simp
  refine hK.out _ _ (hH2) (fun hH3 => ?_)
  clear hK K
  refine Wl.d ?_
  clear hHeld hH1 hH2
  go_wp2
  go_ret
  refine ⟨w1.heap.size, 7, rfl, Nat.le_refl _, by unfold maxLen; omega, range_of_block (heap_alloc_last w1.drew _ rfl), ?_⟩
  exact (below_drewN HB.out 1).alloc HB.out.size _
attribute [local go_sem ↓] wp_build_wrT wp_row_wrT run_build_mapT run_row_mapT Go.wp_at_zero Go.wp_at_succ
theorem jroom {S : Nat → Prop} {w : World} {j d base n cov next : Nat} {W : List (Nat × Bk)} (h : Jn S w j d base n cov next W) :
    Calls Tryz.prog 184 #[.pointer (some ⟨j, 0, none⟩)] w fun e w' => e = .returned (.int .i64 ((n : Int) - ((next : Int) - 1 - (cov : Int)))) ∧ Upd (fun _ => False) w w' := by
  obtain ⟨v, h, -⟩ := h
  obtain ⟨-, -, c2, c3, c4, -⟩ := h.c
  obtain ⟨-, -, hn, hwl, hrm, hmx, -⟩ := h.good
  have q1 : IntKind.i64.wrap ((next : Int) - 1) = (next : Int) - 1 := IntWalk.i64_in _ (by omega)
  have q2 : IntKind.i64.wrap ((next : Int) - 1 - (cov : Int)) = (next : Int) - 1 - (cov : Int) := IntWalk.i64_in _ (by omega)
  have q3 : IntKind.i64.wrap ((n : Int) - ((next : Int) - 1 - (cov : Int))) = (n : Int) - ((next : Int) - 1 - (cov : Int)) := IntWalk.i64_in _ (by omega)
  clear h hn hwl hrm hmx
  go_enter Tryz.func184, Tryz.ntmps184
  go_wp2
  go_quiet (fail)
  go_wp2
  go_ret
  exact ⟨rfl, (Upd.refl _ _).drewN nq⟩
theorem cell_keep_setO {w : World} {g i k : Nat} {v u : Value} (h : w.cell? ⟨g, i, none⟩ = some v) (hne : ¬ k = i) : (w.setCell ⟨g, k, none⟩ u).cell? ⟨g, i, none⟩ = some v := by
  rw [World.cell?_setCell_other _ _ _ _ (fun e => hne (congrArg Addr.off e)), h]
abbrev jaddX (next n : Nat) (op block slot : Int) (d : Bool) (sum : Int) : List Int := recX (next : Int) (((next - 1) / n : Nat) : Int) op block slot d sum
theorem JnGood.add {base n cov next : Nat} {W : List (Nat × Bk)} (h : JnGood base n cov next W) (hroom : next ≤ cov + n) (hmx : next ≤ 1099511627776) {y : Bk} (hy : y.length = 64) : JnGood base n cov (next + 1) (W ++ [(next, y)]) :=
  ⟨fun p hp => by rcases List.mem_append.1 hp with h1 | h1; exact h.w64 p h1; simp at h1; subst h1; exact hy,
   fun p hp => by rcases List.mem_append.1 hp with h1 | h1; have := h.lt p h1; omega; simp at h1; subst h1; simp,
   h.n1, by have := h.wl; simp; omega, by omega, by omega, h.bs⟩
def JaddOut (S : Nat → Prop) (w : World) (j d base n cov next : Nat) (W : List (Nat × Bk)) (y : Bk) (e : Ending) (w' : World) : Prop :=
  e = .returned (.tuple #[.int .i64 (next : Int), .int .i64 0]) ∧ Jn S w' j d base n cov (next + 1) (W ++ [(next, y)]) ∧ Upd S w w'
set_option maxRecDepth 100000 in
set_option maxHeartbeats 4000000 in
theorem jadd {S : Nat → Prop} {w : World} {j d base n cov next : Nat} {W : List (Nat × Bk)} (h : Jn S w j d base n cov next W) (hn : ∀ k, w.heap.size ≤ k → S k) (hN : Nib w) (hSN : ¬ S 0) (hroom : next ≤ cov + n) (hmx : next ≤ 1099511627776)
    (a0 a1 op block slot : Int) (db : Bool) (sum : Int) (hmay : mayR (jaddX next n op block slot db sum) = true) :
    Calls Tryz.prog 146 #[.pointer (some ⟨j, 0, none⟩), .agg (recC a0 a1 op block slot db sum).toArray] w (JaddOut S w j d base n cov next W (sectR (jaddX next n op block slot db sum))) := by
  obtain ⟨vw, h, hS⟩ := h
  have hgd := h.good
  obtain ⟨w1, hw1⟩ : ∃ w1, w1 = w.alloc (.cells (recC a0 a1 op block slot db sum).toArray 225) := ⟨_, rfl⟩
  have hu1 : Upd (fun _ => False) w w1 := by rw [hw1]; exact (Upd.refl _ w).alloc _
  have hg1 : w1.heap[w.heap.size]? = some (.cells (recC a0 a1 op block slot db sum).toArray 225 (0, 0)) := by rw [hw1]; exact heap_alloc_last w _ rfl
  have HRm := Lib.hid (jroom (S := jnS j vw) ⟨vw, h.new hu1, fun _ h => h⟩)
  have q0 : ((n : Int) - ((next : Int) - 1 - (cov : Int)) == 0) = false := by have := hgd.wl; simp; omega
  have q00 : ¬ (n : Int) - ((next : Int) - 1 - (cov : Int)) = 0 := by have := hgd.wl; omega
  have q4 : ¬ 1099511627776 < (next : Int) := by omega
  have hn1 := hgd.n1
  have hnx : 1 ≤ next := by have := hgd.wl; omega
  have H := Lib.hid (And.intro h (And.intro hS (And.intro hn (And.intro hN (And.intro hSN (And.intro hroom (And.intro hmx (And.intro hmay (And.intro hu1 hg1)))))))))
  have HW1 := Lib.hid hw1
  clear h hS hn hN hSN hroom hmay hu1 hg1 hw1 hgd
  go_enter Tryz.func146, Tryz.ntmps146
  go_wp2_with fail
  rw [← HW1.out]
  refine HRm.out.mono ?_
  rintro e w2 ⟨rfl, hu2⟩
  obtain ⟨h, hS, hn, hN, hSN, hroom, -, hmay, hu1, hg1⟩ := H.out
  have hu12 := hu1.trans hu2
  have h2 := h.new hu12
  have hg2 := hu2.blockv hg1
  obtain ⟨-, -, c2, -, c4, -⟩ := h2.c
  obtain ⟨m, hm⟩ : ∃ m, m = w.heap.size := ⟨_, rfl⟩
  have hjm : ¬ j = m := by have := lt_of_block h.str; omega
  rw [← hm] at hg2
  have b0 : w2.cell? ⟨m, 0, none⟩ = some (.int .i64 a0) := cell_of_block hg2 0
  have b1 : w2.cell? ⟨m, 1, none⟩ = some (.int .i64 a1) := cell_of_block hg2 1
  have f0 := frozen_of_block hg2 0
  have f1 := frozen_of_block hg2 1
  have H2 := Lib.hid (And.intro h2 (And.intro hg2 (And.intro hu12 hm)))
  have r1 : IntKind.i64.wrap ((next : Int) - 1) = (next : Int) - 1 := IntWalk.i64_in _ (by omega)
  obtain ⟨lp, hlp⟩ : ∃ lp, lp = (next - 1) / n := ⟨_, rfl⟩
  have hlp1 : lp ≤ next - 1 := by rw [hlp]; exact Nat.div_le_self _ _
  have r2 : IntKind.i64.wrap (((next : Int) - 1).tdiv (n : Int)) = (lp : Int) := by
    rw [show (next : Int) - 1 = ((next - 1 : Nat) : Int) by omega, ← Int.ofNat_tdiv, ← hlp]
    exact IntWalk.i64_in _ (by omega)
  have hn0 : ¬ n = 0 := by omega
  have g21 := heap_setCell_same hg2 0 (.int .i64 (next : Int))
  have b11 : (w2.setCell ⟨m, 0, none⟩ (.int .i64 (next : Int))).cell? ⟨m, 1, none⟩ = some (.int .i64 a1) := cell_of_block g21 1
  have f11 := frozen_of_block g21 1
  have HLp := Lib.hid hlp
  have hu21 := upd_setCell w2 m 0 (.int .i64 (next : Int))
  have H21 := Lib.hid (And.intro g21 hu21)
  rw [← hm]
  clear hlp hlp1 g21 hu21
  clear h hS hn hN hSN hroom hmay hu1 hg1 hu12 h2 hg2 hu2 hm HRm
  go_upto_region 7 with fail
  refine wp_region_held_drew (S := fun W => W.cell? ⟨j, 2, none⟩ = some (.int .i64 (n : Int)) ∧ W.cell? ⟨j, 4, none⟩ = some (.int .i64 (next : Int))) (by kernel_rfl) (by (simp only [World.cell?_drew]); exact ⟨c2, c4⟩) (fun hHeld => ?_)
  refine Wl.i [0, 1, 2, 3, 4, 5, 6, 7, 8, 9, 10, 11, 12, 13, 14] ?_; iterate 15 refine Wl.t hHeld ?_
  refine Wl.o ?_
  refine Wl.r 15 (fun K hK => ?_)
  go_simp
  refine hK.out _ _ (⟨cell_keep_set hHeld.1 (fun e => hjm e.symm), cell_keep_set hHeld.2 (fun e => hjm e.symm)⟩) (fun hH1 => ?_)
  clear hK K
  refine Wl.i [16] (Wl.t hH1 (Wl.o ?_))
  refine Wl.r 17 (fun K hK => ?_)
  go_simp
  refine hK.out _ _ (⟨cell_keep_set hH1.1 (fun e => hjm e.symm), cell_keep_set hH1.2 (fun e => hjm e.symm)⟩) (fun hH2 => ?_)
  clear hK K
  refine Wl.d ?_
  clear hHeld hH1 hH2 c2 c4 b0 b1 f0 f1 r1 r2 hn0 b11 f11
  obtain ⟨w3, hw3⟩ : ∃ w3, w3 = ((w2.setCell ⟨m, 0, none⟩ (.int .i64 (next : Int))).setCell ⟨m, 1, none⟩ (.int .i64 (lp : Int))).drew := ⟨_, rfl⟩
  rw [← hw3]
  have hu3 : Upd (fun k => k = m) w2 w3 := by rw [hw3]; exact (H21.out.2.trans (upd_setCell _ m 1 _)).drew
  have hg3 : w3.heap[m]? = some (.cells (recC (next : Int) (lp : Int) op block slot db sum).toArray 225 (0, 0)) := by
    rw [hw3]
    exact (((Upd.refl (fun _ => False) _).drew).blockv (heap_setCell_same H21.out.1 1 (.int .i64 (lp : Int)))).trans (by simp)
  obtain ⟨h, hS, hn, hN, hSN, hroom, -, hmay, hu1, hg1⟩ := H.out
  obtain ⟨h2, hg2, hu12, hm⟩ := H2.out
  have hjs : ∀ k, jnS j vw k → ¬ k = m := fun k hk e => by have := h.slt k hk; omega
  have h3 := h2.keep hu3 hjs
  have hN3 : Nib w3 := (hN.keep hu12 (fun h => h)).keep hu3 (fun e => by have := hN.lt; omega)
  obtain ⟨y, hy⟩ : ∃ y, y = sectR (recX (next : Int) (lp : Int) op block slot db sum) := ⟨_, rfl⟩
  have hyl : y.length = 64 := by rw [hy]; exact sectR_len rfl
  have HP := Lib.hid (PutR_any hN3 (recC (next : Int) (lp : Int) op block slot db sum) rfl (recX (next : Int) (lp : Int) op block slot db sum) rfl (fun W => tellR _ _ _ _ _ _ _ W))
  have hmay' : mayR (recX (next : Int) (lp : Int) op block slot db sum) = true := by rw [HLp.out]; exact hmay
  have rX := range_of_block hg3
  have H3 := Lib.hid (And.intro h3 (And.intro hg3 (And.intro hu3 (And.intro hjs (And.intro hmay' (And.intro hy hyl))))))
  clear h hS hn hN hSN hroom hmay hu1 hg1 h2 hg2 hu12 hm hjs h3 hN3 hmay' hy hw3 hu3 hg3
  go_wp2_with (first
    | (refine wpList_load_mid rfl _ _ rfl _ _ rfl _ _ rX Tryz.underlying225 rfl (by rw [show (recC (next : Int) (lp : Int) op block slot db sum).length = 7 from rfl]; exact infoThR) ?_)
    | fail)
  refine HP.out.mono ?_
  rintro e w4 ⟨he, hb4⟩
  obtain rfl : e = .returned (.tuple #[.agg (bkC y).toArray, .int .i64 0]) := by
    rcases he with ⟨-, he⟩ | ⟨hf, -⟩
    · rw [he, H3.out.2.2.2.2.2.1]
    · rw [H3.out.2.2.2.2.1] at hf; cases hf
  have hu4 : Upd (fun _ => False) w3 w4 := Upd.of_below hb4
  obtain ⟨w5, hw5⟩ : ∃ w5, w5 = w4.alloc (.cells (bkC y).toArray 23) := ⟨_, rfl⟩
  have hu5 : Upd (fun _ => False) w4 w5 := by rw [hw5]; exact (Upd.refl _ w4).alloc _
  have hg5 : w5.heap[w4.heap.size]? = some (.cells (bkC y).toArray 23 (0, 0)) := by rw [hw5]; exact heap_alloc_last w4 _ rfl
  have hu35 := hu4.trans hu5
  have h5 := H3.out.1.new hu35
  have hyl := H3.out.2.2.2.2.2.2
  have siY := Lib.hid (sizeBk y hyl)
  have oneY := Lib.hid (bkC_one y)
  have lnY : Hid ((bkC y).length = 64) := by show _ = _; rw [bkC_len, hyl]
  obtain ⟨i, z, hi, hz, hzs, hsz, hby⟩ := infoWr_partsT
  have hu : Upd (fun _ => False) w5 (w5.alloc (.cells (wrC (next : Int) y).toArray 279)).drew := ((Upd.refl _ _).alloc _).drew
  have hd := h5.new hu
  have hrd : Rd (w5.alloc (.cells (wrC (next : Int) y).toArray 279)).drew 65 (.slice (some ⟨w5.heap.size, 0, none⟩) 1 1) 1 (wrC (next : Int) y) :=
    Rd.keep (Rd.fresh w5 (wrC (next : Int) y) 279 1 (by rw [wrC_len, hyl]) (by unfold maxLen; omega)) ((Upd.refl (fun _ => False) _).drew) (fun _ _ h => h)
  have hWl : W.length ≤ 1024 := by have := H.out.1.good; have := this.wl; have := H.out.2.2.2.2.2.1; omega
  obtain ⟨v', w6, hrun, hs1, hu6, hbf⟩ := run_append_sl 274 274 i z 72 Tryz.underlying274 hi hz hsz hby hzs (by decide) hd.ws hrd (wrC_one (next : Int) y) (by unfold maxLen; omega) (by omega)
  rw [← opC_snoc] at hs1
  have hln : W.length + 1 = (W ++ [(next, y)]).length := by simp
  rw [hln] at hs1
  obtain ⟨ao1, c1', rfl⟩ := hs1.rd.nil_iff
  have hstr6 := (hu6.block j (lt_of_block hd.str) (fun e => hd.wb e)).trans hd.str
  have k5 := cell_of_block hstr6 5
  have z5 := frozen_of_block hstr6 5
  have k4 := cell_of_block hstr6 4
  simp at k4 k5
  obtain ⟨-, -, -, -, c4, c5⟩ := h5.c
  have hg5m := hu35.blockv H3.out.2.1
  have rY := range_of_block hg5
  have hbl := built_wrT (next : Int) y hyl
  have hut := Tryz.underlying23
  have hsi := sizeBk y hyl
  have hlx : (bkC y).length = 64 := by rw [bkC_len, hyl]
  have h1x := bkC_one y
  obtain ⟨p6, hp6⟩ : ∃ p6, p6 = w4.heap.size := ⟨_, rfl⟩
  rw [← hp6] at rY hg5
  have hvlt : ∀ g, vw.ownBlock = some g → g < w.heap.size := fun g hg => H.out.1.ws.lt hg
  have hmw := H2.out.2.2.2
  have hsz4 : w.heap.size < w4.heap.size := by
    have h1 := lt_of_block H3.out.2.1
    have h2 := hu4.size
    omega
  have q4 := hu6.cellv (cell_keep_alloc c4 _) (fun e => hd.wb e)
  have qY := hu6.range (World.rangeAt_alloc rY _) (fun e => by have := hvlt _ e; omega)
  have hjp : ¬ j = p6 := by have := lt_of_block H.out.1.str; omega
  have d5 := cell_keep_alloc c5 (.cells (wrC (next : Int) y).toArray 279)
  have n4 := World.new_ne w5 _ c5
  have HX := Lib.hid (And.intro hbf (And.intro hu (And.intro hu6 (And.intro hs1 (And.intro hstr6 (And.intro hu35 (And.intro hg5m (And.intro hvlt hsz4))))))))
  have HW5 := Lib.hid hw5
  have HP6 := Lib.hid hp6
  clear hbf hu hu6 hs1 hstr6 hu35 hg5m hvlt hsz4 hd hrd hb4 he hu4 hu5 h5 hw5 rX hln hmw hp6 hWl
  go_wp2_with (first
    | (refine wpList_store_new rfl _ _ _ rfl _ _ _ rfl rfl (by rw [lnY.out]; rfl) siY.out oneY.out ?_)
    | fail)
  rw [← HW5.out, ← HP6.out]
  refine wp_region_held_drew (S := fun W => W.cell? ⟨j, 4, none⟩ = some (.int .i64 (next : Int)) ∧ W.rangeAt p6 0 (bkC y)) (by kernel_rfl) (⟨by rw [World.cell?_drew]; exact c4, by rw [World.rangeAt_drew]; exact rY⟩) (fun hHeld => ?_)
  refine Wl.i [0, 1, 2, 3, 5, 6, 7, 8] ?_; iterate 8 refine Wl.t hHeld ?_
  refine Wl.o ?_
  refine Wl.l 9 (fun w h => h.2) hut hsi hHeld ?_
  refine Wl.i [10] (Wl.t hHeld (Wl.o ?_))
  refine wpAnyH_ready (rs := [4, 11]) (by kernel_rfl) (by simp) ?_
  refine AllReadyH.cons rfl (fun K hK => ?_) (AllReadyH.cons rfl (fun K hK => ?_) AllReadyH.nil)
  · go_simp
    refine hK.out _ _ ((by (go_split_ands; (simp only [World.rangeAt_drew, World.cell?_drew] at *); ((repeat' constructor) <;> first | assumption | (apply cell_keep_alloc; assumption) | (refine cell_keep_set ?_ ?_ <;> assumption) | (refine range_keep_set ?_ ?_ <;> assumption) | (apply World.rangeAt_alloc; assumption) | (apply World.there_alloc; assumption))))) (fun hH1 => ?_)
    clear hK K
    refine Wl.r 11 (fun K hK => ?_)
    go_simp
    refine hK.out _ _ ((by (go_split_ands; (simp only [World.rangeAt_drew, World.cell?_drew] at *); ((repeat' constructor) <;> first | assumption | (apply cell_keep_alloc; assumption) | (refine cell_keep_set ?_ ?_ <;> assumption) | (refine range_keep_set ?_ ?_ <;> assumption) | (apply World.rangeAt_alloc; assumption) | (apply World.there_alloc; assumption))))) (fun hH2 => ?_)
    clear hK K
    refine Wl.r 12 (fun K hK => ?_)
    refine step_append_run rfl _ _ _ rfl rfl rfl hrun ?_
    refine hK.out _ _ (⟨q4, qY⟩) (fun hH3 => ?_)
    clear hK K
    refine Wl.i [13, 14] ?_; iterate 2 refine Wl.t hH3 ?_
    refine Wl.o ?_
    refine Wl.r 15 (fun K hK => ?_)
    go_simp
    refine hK.out _ _ (⟨cell_keep_setO hH3.1 (by decide), range_keep_set hH3.2 hjp⟩) (fun _ => ?_)
    clear hK K
    refine Wl.d ?_
    clear hH1 hH2 hH3 hHeld k5 z5 c4 c5 rY hbl hut hsi hlx h1x q4 qY d5 n4 hrun k4 hyl
    obtain ⟨hbf, hu, hu6, hs1, hstr6, hu35, hg5m, hvlt, hsz4⟩ := HX.out
    have hl' : (W ++ [(next, y)]).length = W.length + 1 := by simp
    rw [hl'] at hs1 hbf
    obtain ⟨u, hu0⟩ : ∃ u : Value, u = .slice ao1 (W.length + 1) c1' := ⟨_, rfl⟩
    rw [← hu0] at hs1 hbf
    obtain ⟨w7, hw7⟩ : ∃ w7, w7 = w6.setCell ⟨j, 5, none⟩ (.slice ao1 (W.length + 1) c1') := ⟨_, rfl⟩
    rw [← hw7]
    have hu7 : Upd (fun k => k = j) w6 w7 := by rw [hw7]; exact upd_setCell _ _ _ _
    have g7 : w7.heap[j]? = some (.cells #[.pointer (some ⟨d, 0, none⟩), .int .i64 base, .int .i64 n, .int .i64 cov, .int .i64 next, u] 276 (0, 0)) := by rw [hw7, hu0]; exact (heap_setCell_same hstr6 5 _).trans (by simp)
    have d4 : w7.cell? ⟨j, 4, none⟩ = some (.int .i64 (next : Int)) := cell_of_block g7 4
    have z4 := frozen_of_block g7 4
    have hnm : ¬ m = j := fun e => hjm e.symm
    have hg7m := (hu7.block m (Nat.lt_of_lt_of_le (lt_of_block hg5m) (Nat.le_trans hu.size hu6.size)) hnm).trans ((hu6.block m (Nat.lt_of_lt_of_le (lt_of_block hg5m) hu.size) (fun e => by have := hvlt m e; have := H2.out.2.2.2; omega)).trans (hu.blockv hg5m))
    have m0 : (w7.setCell ⟨j, 4, none⟩ (.int .i64 ((next : Int) + 1))).cell? ⟨m, 0, none⟩ = some (.int .i64 (next : Int)) := cell_keep_set (cell_of_block hg7m 0) (fun e => hnm e.symm)
    have r1 : IntKind.i64.wrap ((next : Int) + 1) = (next : Int) + 1 := IntWalk.i64_in _ (by omega)
    have HY := Lib.hid (And.intro hs1 (And.intro hbf (And.intro hu7 (And.intro g7 hu0))))
    clear hbf hu hu6 hs1 hstr6 hu35 hg5m hvlt hsz4 hl' hu0 hw7 hu7 g7 hg7m hnm
    go_wp2
    go_ret2
    obtain ⟨hs1, hbf, hu7, g7, hu0⟩ := HY.out
    obtain ⟨-, hu, hu6, -, -, hu35, -, hvlt, hsz4⟩ := HX.out
    obtain ⟨h, hS, hn, -⟩ := H.out
    have hU5 : Upd S w w5 := ((H2.out.2.2.1.mono (fun _ _ h => h.elim)).trans (H3.out.2.2.1.mono (fun k _ e => hn k (by rw [e, H2.out.2.2.2]; exact Nat.le_refl _)))).trans (hu35.mono (fun _ _ h => h.elim))
    have hU6 : Upd S w w6 := hU5.trans ((hu.mono (fun _ _ h => h.elim)).trans (hu6.mono (fun k _ hk => hS k (.inr hk))))
    have hub : u.ownBlock ≠ some j := fun e => by
      rcases hbf with h1 | ⟨g, h1, hle⟩
      · exact h.wb (by rw [← h1]; exact e)
      · rw [h1] at e; cases e; have := lt_of_block h.str; have := hU5.size; have := hu.size; omega
    have hu8 : Upd (fun k => k = j) w7 (w7.setCell ⟨j, 4, none⟩ (.int .i64 ((next : Int) + 1))) := upd_setCell _ _ _ _
    have hyy : sectR (jaddX next n op block slot db sum) = y := by rw [H3.out.2.2.2.2.2.1, HLp.out]
    rw [hyy]
    refine ⟨rfl, ⟨u, ⟨(heap_setCell_same g7 4 _).trans (by simp), ?_, hub, h.good.add H.out.2.2.2.2.2.1 hmx H3.out.2.2.2.2.2.2⟩, ?_⟩, hU6.trans ((hu7.trans hu8).mono (fun k _ e => e ▸ hS j (.inl rfl)))⟩
    · rw [List.length_append]
      exact (hs1.keep_ne hu7 hub).keep_ne hu8 hub
    · rintro k (rfl | hk)
      · exact hS _ (.inl rfl)
      · rcases hbf with h1 | ⟨g, h1, hle⟩
        · exact hS _ (.inr (by rw [← h1]; exact hk))
        · rw [h1] at hk; cases hk; exact hn _ (by have := hU5.size; have := hu.size; omega)
  · go_simp
    refine hK.out _ _ ((by (go_split_ands; (simp only [World.rangeAt_drew, World.cell?_drew] at *); ((repeat' constructor) <;> first | assumption | (apply cell_keep_alloc; assumption) | (refine cell_keep_set ?_ ?_ <;> assumption) | (refine range_keep_set ?_ ?_ <;> assumption) | (apply World.rangeAt_alloc; assumption) | (apply World.there_alloc; assumption))))) (fun hH1 => ?_)
    clear hK K
    refine Wl.r 4 (fun K hK => ?_)
    go_simp
    refine hK.out _ _ ((by (go_split_ands; (simp only [World.rangeAt_drew, World.cell?_drew] at *); ((repeat' constructor) <;> first | assumption | (apply cell_keep_alloc; assumption) | (refine cell_keep_set ?_ ?_ <;> assumption) | (refine range_keep_set ?_ ?_ <;> assumption) | (apply World.rangeAt_alloc; assumption) | (apply World.there_alloc; assumption))))) (fun hH2 => ?_)
    clear hK K
    refine Wl.r 12 (fun K hK => ?_)
    refine step_append_run rfl _ _ _ rfl rfl rfl hrun ?_
    refine hK.out _ _ (⟨q4, qY⟩) (fun hH3 => ?_)
    clear hK K
    refine Wl.i [13, 14] ?_; iterate 2 refine Wl.t hH3 ?_
    refine Wl.o ?_
    refine Wl.r 15 (fun K hK => ?_)
    go_simp
    refine hK.out _ _ (⟨cell_keep_setO hH3.1 (by decide), range_keep_set hH3.2 hjp⟩) (fun _ => ?_)
    clear hK K
    refine Wl.d ?_
    clear hH1 hH2 hH3 hHeld k5 z5 c4 c5 rY hbl hut hsi hlx h1x q4 qY d5 n4 hrun k4 hyl
    obtain ⟨hbf, hu, hu6, hs1, hstr6, hu35, hg5m, hvlt, hsz4⟩ := HX.out
    have hl' : (W ++ [(next, y)]).length = W.length + 1 := by simp
    rw [hl'] at hs1 hbf
    obtain ⟨u, hu0⟩ : ∃ u : Value, u = .slice ao1 (W.length + 1) c1' := ⟨_, rfl⟩
    rw [← hu0] at hs1 hbf
    obtain ⟨w7, hw7⟩ : ∃ w7, w7 = w6.setCell ⟨j, 5, none⟩ (.slice ao1 (W.length + 1) c1') := ⟨_, rfl⟩
    rw [← hw7]
    have hu7 : Upd (fun k => k = j) w6 w7 := by rw [hw7]; exact upd_setCell _ _ _ _
    have g7 : w7.heap[j]? = some (.cells #[.pointer (some ⟨d, 0, none⟩), .int .i64 base, .int .i64 n, .int .i64 cov, .int .i64 next, u] 276 (0, 0)) := by rw [hw7, hu0]; exact (heap_setCell_same hstr6 5 _).trans (by simp)
    have d4 : w7.cell? ⟨j, 4, none⟩ = some (.int .i64 (next : Int)) := cell_of_block g7 4
    have z4 := frozen_of_block g7 4
    have hnm : ¬ m = j := fun e => hjm e.symm
    have hg7m := (hu7.block m (Nat.lt_of_lt_of_le (lt_of_block hg5m) (Nat.le_trans hu.size hu6.size)) hnm).trans ((hu6.block m (Nat.lt_of_lt_of_le (lt_of_block hg5m) hu.size) (fun e => by have := hvlt m e; have := H2.out.2.2.2; omega)).trans (hu.blockv hg5m))
    have m0 : (w7.setCell ⟨j, 4, none⟩ (.int .i64 ((next : Int) + 1))).cell? ⟨m, 0, none⟩ = some (.int .i64 (next : Int)) := cell_keep_set (cell_of_block hg7m 0) (fun e => hnm e.symm)
    have r1 : IntKind.i64.wrap ((next : Int) + 1) = (next : Int) + 1 := IntWalk.i64_in _ (by omega)
    have HY := Lib.hid (And.intro hs1 (And.intro hbf (And.intro hu7 (And.intro g7 hu0))))
    clear hbf hu hu6 hs1 hstr6 hu35 hg5m hvlt hsz4 hl' hu0 hw7 hu7 g7 hg7m hnm
    go_wp2
    go_ret2
    obtain ⟨hs1, hbf, hu7, g7, hu0⟩ := HY.out
    obtain ⟨-, hu, hu6, -, -, hu35, -, hvlt, hsz4⟩ := HX.out
    obtain ⟨h, hS, hn, -⟩ := H.out
    have hU5 : Upd S w w5 := ((H2.out.2.2.1.mono (fun _ _ h => h.elim)).trans (H3.out.2.2.1.mono (fun k _ e => hn k (by rw [e, H2.out.2.2.2]; exact Nat.le_refl _)))).trans (hu35.mono (fun _ _ h => h.elim))
    have hU6 : Upd S w w6 := hU5.trans ((hu.mono (fun _ _ h => h.elim)).trans (hu6.mono (fun k _ hk => hS k (.inr hk))))
    have hub : u.ownBlock ≠ some j := fun e => by
      rcases hbf with h1 | ⟨g, h1, hle⟩
      · exact h.wb (by rw [← h1]; exact e)
      · rw [h1] at e; cases e; have := lt_of_block h.str; have := hU5.size; have := hu.size; omega
    have hu8 : Upd (fun k => k = j) w7 (w7.setCell ⟨j, 4, none⟩ (.int .i64 ((next : Int) + 1))) := upd_setCell _ _ _ _
    have hyy : sectR (jaddX next n op block slot db sum) = y := by rw [H3.out.2.2.2.2.2.1, HLp.out]
    rw [hyy]
    refine ⟨rfl, ⟨u, ⟨(heap_setCell_same g7 4 _).trans (by simp), ?_, hub, h.good.add H.out.2.2.2.2.2.1 hmx H3.out.2.2.2.2.2.2⟩, ?_⟩, hU6.trans ((hu7.trans hu8).mono (fun k _ e => e ▸ hS j (.inl rfl)))⟩
    · rw [List.length_append]
      exact (hs1.keep_ne hu7 hub).keep_ne hu8 hub
    · rintro k (rfl | hk)
      · exact hS _ (.inl rfl)
      · rcases hbf with h1 | ⟨g, h1, hle⟩
        · exact hS _ (.inr (by rw [← h1]; exact hk))
        · rw [h1] at hk; cases hk; exact hn _ (by have := hU5.size; have := hu.size; omega)
set_option maxRecDepth 100000 in
set_option maxHeartbeats 1000000 in
theorem jcom1 {T : Nat → Prop} {w : World} {j d base n cov next : Nat} {vw : Value} {W : List (Nat × Bk)} (h : JnAt w j vw d base n cov next W) {g0 : Nat} (c0 : w.cell? ⟨g0, 0, none⟩ = some (.pointer (some ⟨j, 0, none⟩)))
    {F : List Bk} {O : List (Nat × Bk)} {P : List Int} (hd : Dv T w d F O P) (hn : ∀ k, w.heap.size ≤ k → T k) (hTj : ¬ T j) (hTg : ¬ T g0) (s : Nat) (hs1 : 1 ≤ s) (hs2 : s < next) (y : Bk) (hy : y.length = 64) (hbn : base + n ≤ F.length) (hO : O.length < 65536) :
    Calls Tryz.prog 181 #[.agg (wrC (s : Int) y).toArray, .pointer (some ⟨g0, 0, none⟩)] w (Out T w d (writeR F O P (base + (s - 1) % n) y)) := by
  have hgd := h.good
  have hn1 := hgd.n1
  have hbs := hgd.bs
  have hmx := hgd.mx
  obtain ⟨w1, hw1⟩ : ∃ w1, w1 = w.alloc (.cells (wrC (s : Int) y).toArray 279) := ⟨_, rfl⟩
  have hu1 : Upd (fun _ => False) w w1 := by rw [hw1]; exact (Upd.refl _ w).alloc _
  have hg1 : w1.heap[w.heap.size]? = some (.cells (wrC (s : Int) y).toArray 279 (0, 0)) := by rw [hw1]; exact heap_alloc_last w _ rfl
  obtain ⟨r0, r1, r2, -, -, -⟩ := (h.new hu1).c
  have rr := range_of_block hg1
  have m0 : w1.cell? ⟨w.heap.size, 0, none⟩ = some (.int .i64 (s : Int)) := cell_of_block hg1 0
  have rY : w1.rangeAt w.heap.size 1 (bkC y) := fun i v hv => by
    have := rr (1 + i) v (by rw [Nat.add_comm]; exact hv)
    rw [Nat.zero_add] at this; exact this
  have hc0 := hu1.cellv c0 (fun h => h)
  obtain ⟨lp, hlp⟩ : ∃ lp, lp = (s - 1) % n := ⟨_, rfl⟩
  have hlp1 : lp < n := by rw [hlp]; exact Nat.mod_lt _ (by omega)
  obtain ⟨sc, hsc⟩ : ∃ sc, sc = base + lp := ⟨_, rfl⟩
  have k1 : IntKind.i64.wrap ((s : Int) - 1) = (s : Int) - 1 := IntWalk.i64_in _ (by omega)
  have k2 : IntKind.i64.wrap (((s : Int) - 1).tmod (n : Int)) = (lp : Int) := by
    rw [show (s : Int) - 1 = ((s - 1 : Nat) : Int) by omega, ← Int.ofNat_tmod, ← hlp]
    exact IntWalk.i64_in _ (by omega)
  have k3 : IntKind.i64.wrap ((base : Int) + (lp : Int)) = (sc : Int) := by
    rw [hsc, Int.natCast_add]
    exact IntWalk.i64_in _ (by omega)
  have k4 : IntKind.i64.wrap ((base : Int) + ((s : Int) - 1).tmod (n : Int)) = (sc : Int) := by
    rw [show (s : Int) - 1 = ((s - 1 : Nat) : Int) by omega, ← Int.ofNat_tmod, ← hlp]; exact k3
  have hn0 : ¬ n = 0 := by omega
  have hut := Tryz.underlying23
  have hsi := sizeBk y hy
  have hsF : sc < F.length := by omega
  have hd1 : Dv (fun k => T k ∧ k ≠ w.heap.size) w1.drew d F O P := ((hd.but (Nat.le_refl _)).keep hu1 (fun _ _ h => h)).keep ((Upd.refl (fun _ => False) _).drew) (fun _ _ h => h)
  have hw1s : w.heap.size + 1 ≤ w1.drew.heap.size := by rw [hw1]; simp
  have hu1d : Upd T w w1.drew := (hu1.drew).mono (fun _ _ h => h.elim)
  rw [← hlp, ← hsc]
  have HD := Lib.hid (And.intro hd1 (And.intro (fun k (hk : w1.drew.heap.size ≤ k) => (⟨hn k (by omega), by omega⟩ : T k ∧ k ≠ w.heap.size)) (And.intro hsF (And.intro hy (And.intro hO hu1d)))))
  have HW1 := Lib.hid hw1
  have HT := Lib.hid (And.intro hTj hTg)
  obtain ⟨m, hm⟩ : ∃ m, m = w.heap.size := ⟨_, rfl⟩
  rw [← hm] at m0 rY HD
  have HM := Lib.hid hm
  clear hTj hTg hd1 hn hsF hO hw1s hu1d hw1 hu1 hg1 hd h c0 hgd rr hlp hsc hlp1 hy hm hbn hbs hmx hs1 hs2 hn1
  go_enter Tryz.func181, Tryz.ntmps181
  go_wp2
  rw [← HW1.out, ← HM.out]
  refine wp_region_held_drew (S := fun W => W.cell? ⟨g0, 0, none⟩ = some (.pointer (some ⟨j, 0, none⟩)) ∧ W.cell? ⟨j, 0, none⟩ = some (.pointer (some ⟨d, 0, none⟩)) ∧ W.cell? ⟨j, 1, none⟩ = some (.int .i64 (base : Int)) ∧ W.cell? ⟨j, 2, none⟩ = some (.int .i64 (n : Int)) ∧ W.cell? ⟨m, 0, none⟩ = some (.int .i64 (s : Int)) ∧ W.rangeAt m 1 (bkC y)) (by kernel_rfl) (by (simp only [World.cell?_drew, World.rangeAt_drew]); exact ⟨hc0, r0, r1, r2, m0, rY⟩) (fun hHeld => ?_)
  refine Wl.i [0, 1, 2, 3, 4, 5, 6, 7, 8, 9, 10, 11, 12, 13, 14, 15, 16, 17] ?_; iterate 18 refine Wl.t hHeld ?_
  refine Wl.o ?_
  refine Wl.l 18 (fun w h => h.2.2.2.2.2) hut hsi hHeld ?_
  refine Wl.r 19 (fun K hK => ?_)
  go_simp
  refine (dwriteR HD.out.1 HD.out.2.1 sc HD.out.2.2.1 y HD.out.2.2.2.1 HD.out.2.2.2.2.1).mono ?_
  rintro e w2 ⟨rfl, hd2, hu2⟩
  have H2 := Lib.hid (And.intro hd2 (And.intro (((Upd.refl (fun k => T k ∧ k ≠ m) w1).drew).trans hu2) (HD.out.2.2.2.2.2.trans (hu2.mono (fun k _ h => h.1)))))
  clear hd2 hu2
  have hTj : ∀ k, (T k ∧ k ≠ m) → ¬ k = j := fun k hk e => HT.out.1 (e ▸ hk.1)
  have hTg : ∀ k, (T k ∧ k ≠ m) → ¬ k = g0 := fun k hk e => HT.out.2 (e ▸ hk.1)
  refine hK.out _ _ (⟨H2.out.2.1.cellv hc0 (fun h => hTg _ h rfl), H2.out.2.1.cellv r0 (fun h => hTj _ h rfl), H2.out.2.1.cellv r1 (fun h => hTj _ h rfl), H2.out.2.1.cellv r2 (fun h => hTj _ h rfl), H2.out.2.1.cellv m0 (fun h => h.2 rfl), H2.out.2.1.range rY (fun h => h.2 rfl)⟩) (fun hH1 => ?_)
  clear hK K
  refine Wl.r 20 (fun K hK => ?_)
  go_simp
  refine hK.out _ _ (hH1) (fun hH2 => ?_)
  clear hK K
  refine Wl.d ?_
  go_wp2
  go_ret
  exact ⟨rfl, H2.out.1.wide (fun k h => h.1), H2.out.2.2⟩
def comW (base n : Nat) (F : List Bk) : List (Nat × Bk) → List (Nat × Bk) → List Int → DRes
  | [], O, P => ⟨F, O, P, 0⟩
  | (s, y) :: W, O, P => if (writeR F O P (base + (s - 1) % n) y).cd = 0 then comW base n F W (writeR F O P (base + (s - 1) % n) y).O (writeR F O P (base + (s - 1) % n) y).P else writeR F O P (base + (s - 1) % n) y
theorem writeR_F (F : List Bk) (O : List (Nat × Bk)) (P : List Int) (s : Nat) (y : Bk) : (writeR F O P s y).F = F := by
  unfold writeR; split; rfl; split <;> rfl
theorem writeR_O (F : List Bk) (O : List (Nat × Bk)) (P : List Int) (s : Nat) (y : Bk) : (writeR F O P s y).O.length ≤ O.length + 1 := by
  unfold writeR; split; simp; split <;> simp
theorem flushR_F (F : List Bk) (O : List (Nat × Bk)) (P : List Int) : (flushR F O P).O.length ≤ O.length := by
  unfold flushR; split; simp; split <;> simp
theorem comW_F (base n : Nat) (F : List Bk) : ∀ (W O : List (Nat × Bk)) (P : List Int), (comW base n F W O P).F = F
  | [], _, _ => rfl
  | (s, y) :: W, O, P => by
    unfold comW
    split
    · exact comW_F base n F W _ _
    · exact writeR_F _ _ _ _ _
theorem comW_O (base n : Nat) (F : List Bk) : ∀ (W O : List (Nat × Bk)) (P : List Int), (comW base n F W O P).O.length ≤ O.length + W.length
  | [], _, _ => by simp [comW]
  | (s, y) :: W, O, P => by
    have h1 := writeR_O F O P (base + (s - 1) % n) y
    unfold comW
    split
    · have := comW_O base n F W (writeR F O P (base + (s - 1) % n) y).O (writeR F O P (base + (s - 1) % n) y).P
      simp only [List.length_cons]; omega
    · simp only [List.length_cons]; omega
abbrev comV (g0 : Nat) : Value := .func (.func 181) #[] #[.pointer (some ⟨g0, 0, none⟩)]
set_option maxRecDepth 100000 in
set_option maxHeartbeats 1000000 in
theorem jfirst {T : Nat → Prop} {w : World} {j d base n cov next : Nat} {vw : Value} {W : List (Nat × Bk)} (h : JnAt w j vw d base n cov next W) (h1 : ∀ p ∈ W, 1 ≤ p.1) {g0 : Nat} (c0 : w.cell? ⟨g0, 0, none⟩ = some (.pointer (some ⟨j, 0, none⟩)))
    {F : List Bk} {O : List (Nat × Bk)} {P : List Int} (hd : Dv T w d F O P) (hn : ∀ k, w.heap.size ≤ k → T k) (hT : ∀ k, jnS j vw k → ¬ T k) (hTg : ¬ T g0) (hbn : base + n ≤ F.length) (hO : O.length + W.length ≤ 65536) :
    Calls Tryz.prog 180 #[vw, comV g0] w (Out T w d (comW base n F W O P)) := by
  obtain ⟨ao, c, rfl⟩ := h.ws.rd.nil_iff
  have H := Lib.hid (And.intro h (And.intro h1 (And.intro c0 (And.intro hn (And.intro hT (And.intro hTg (And.intro hbn (And.intro hO hd))))))))
  clear h h1 c0 hn hT hTg hbn hO hd
  go_enter Tryz.func180, Tryz.ntmps180
  go_wp2
  go_step3
  go_wp2
  go_step3
  go_wp2
  go_loopw [5, 10] (fun s5 s10 wr => ∃ k O' P', k ≤ W.length ∧ s5 = .int .i64 0 ∧ s10 = .int .i64 (k : Int) ∧ Dv T wr d F O' P' ∧ Upd T w wr ∧ comW base n F W O P = comW base n F (W.drop k) O' P' ∧ O'.length ≤ O.length + k) (fun _ s10 _ => W.length - (intOf s10).toNat)
  case atStart => exact ⟨0, O, P, Nat.zero_le _, rfl, rfl, H.out.2.2.2.2.2.2.2.2, Upd.refl _ _, rfl, Nat.le_refl _⟩
  case round =>
    obtain ⟨k, O', P', hk, rfl, rfl, hd, hu, hcom, hOl⟩ := hrel
    by_cases hlt : k < W.length
    · obtain ⟨h, h1, c0, hn, hT, hTg, hbn, hO, -⟩ := H.out
      have h' := h.keep hu hT
      obtain ⟨g, off, cap, e1, hgl, hcap, hr⟩ := h'.range hlt
      cases e1
      have hp1 := h1 W[k] (List.getElem_mem hlt)
      have hWl : W.length ≤ 65536 := by omega
      have hlw := h.good.lt W[k] (List.getElem_mem hlt)
      have h64 := h.good.w64 W[k] (List.getElem_mem hlt)
      have hdr : W.drop k = (W[k].1, W[k].2) :: W.drop (k + 1) := List.drop_eq_getElem_cons hlt
      have b1 : (0 : Int) ≤ (k : Int) := by omega
      have b2 : (k : Int) < (W.length : Int) := by omega
      rw [hdr, comW] at hcom
      obtain ⟨s, hs⟩ : ∃ s, s = W[k].1 := ⟨_, rfl⟩
      obtain ⟨y, hy⟩ : ∃ y, y = W[k].2 := ⟨_, rfl⟩
      rw [← hs, ← hy] at hr hcom
      rw [← hs] at hp1 hlw
      rw [← hy] at h64
      have hu2 : Upd (fun _ => False) wr (wr.alloc (.cells (wrC (s : Int) y).toArray 279)) := (Upd.refl _ _).alloc _
      have hr2 := range_of_block (heap_alloc_last wr (.cells (wrC (s : Int) y).toArray 279) rfl)
      have hub := hu.trans (hu2.mono (fun _ _ h => h.elim))
      have hc := jcom1 (h'.new hu2) (hub.cellv c0 hTg) (hd.keep hu2 (fun _ _ h => h)) (fun k hk => hn k (Nat.le_trans hub.size hk)) (hT j (.inl rfl)) hTg s hp1 hlw y h64 hbn (by omega)
      have hF := writeR_F F O' P' (base + (s - 1) % n) y
      have hO1 := writeR_O F O' P' (base + (s - 1) % n) y
      generalize writeR F O' P' (base + (s - 1) % n) y = r at *
      have HC := Lib.hid (And.intro hc (And.intro hub (And.intro hF (And.intro hO1 (And.intro hcom (And.intro hOl hk))))))
      clear h h' h1 c0 hn hT hTg hbn hO hu hd hc hub hF hO1 hcom hOl hs hy hdr hp1 hlw hgl hcap hu2 hk
      go_wp2_with (first
        | refine wpList_load_mid rfl _ _ rfl _ _ rfl _ _ hr Tryz.underlying279 rfl (sizeWt _ _ h64) ?_
        | refine wpList_load_mid rfl _ _ rfl _ _ rfl _ _ hr2 Tryz.underlying279 rfl (sizeWt _ _ h64) ?_
        | (refine wpList_store_new rfl _ _ _ rfl _ _ _ rfl rfl (by rw [zero_wt, wrC_len, h64]) (sizeWt _ _ h64) (wrC_one _ _) ?_)
        | fail)
      refine HC.out.1.mono ?_
      rintro e w3 ⟨rfl, hd3, hu3⟩
      have H3 := Lib.hid (And.intro hd3 hu3)
      clear hd3 hu3 hr hr2
      by_cases hcd : r.cd = 0
      · rw [hcd]
        go_wp2
        go_roundw
        case rel =>
          obtain ⟨-, hub, hF, hO1, hcom, hOl, hk⟩ := HC.out
          have hd3 := H3.out.1
          rw [hF] at hd3
          rw [if_pos hcd] at hcom
          exact ⟨k + 1, r.O, r.P, by omega, rfl, by go_num, hd3, hub.trans H3.out.2, hcom, by omega⟩
        case measure => simp [intOf]; omega
      · have q0 : (r.cd == 0) = false := by simpa using hcd
        go_wp2
        go_ret
        obtain ⟨-, hub, hF, hO1, hcom, hOl, hk⟩ := HC.out
        rw [if_neg hcd] at hcom
        rw [hcom]
        exact ⟨rfl, H3.out.1, hub.trans H3.out.2⟩
    · obtain rfl : k = W.length := by omega
      have HC := Lib.hid (And.intro hd (And.intro hu hcom))
      clear hd hu hcom hk hOl
      go_wp2
      go_ret
      obtain ⟨hd, hu, hcom⟩ := HC.out
      rw [hcom, List.drop_length]
      exact ⟨rfl, hd, hu⟩
end Go.Proofs.YtnadilfobmgebaaGreatDoor
