/- A journal: Room, Add. A journal: Commit. A journal: Commit, the whole. A journal: Commit, the whole. A cache's devices and journal, call by call. -/
import Derived.Test.YtfhfbpmlnjdfoaaGreatDoorG07
import Derived.Test.YtfhfbpmlnjdfoaaGreatDoorG10
import Derived.Test.YtfhfbpmlnjdfoaaGreatDoorG02
import Derived.Test.YtfhfbpmlnjdfoaaGreatDoorG06
import Derived.Deep.DrawnRows
import Derived.Test.YtfhfbpmlnjdfoaaGreatDoorG03
namespace Go.Proofs.YtfhfbpmlnjdfoaaGreatDoor
open Go Go.RowKit
attribute [local go_sem ↓] wp_build_wrT wp_row_wrT run_build_mapT run_row_mapT Go.wp_at_zero Go.wp_at_succ
theorem jroom {S : Nat → Prop} {w : World} {j d base n cov next : Nat} {W : List (Nat × Bk)} (h : Jn S w j d base n cov next W) :
    Calls Tryz.prog 232 #[.pointer (some ⟨j, 0, none⟩)] w fun e w' => e = .returned (.int .i64 ((n : Int) - ((next : Int) - 1 - (cov : Int)))) ∧ Upd (fun _ => False) w w' := by
  obtain ⟨v, h, -⟩ := h
  obtain ⟨-, -, c2, c3, c4, -⟩ := h.c
  obtain ⟨-, -, hn, hwl, hrm, hmx, -⟩ := h.good
  have q1 : IntKind.i64.wrap ((next : Int) - 1) = (next : Int) - 1 := IntWalk.i64_in _ (by omega)
  have q2 : IntKind.i64.wrap ((next : Int) - 1 - (cov : Int)) = (next : Int) - 1 - (cov : Int) := IntWalk.i64_in _ (by omega)
  have q3 : IntKind.i64.wrap ((n : Int) - ((next : Int) - 1 - (cov : Int))) = (n : Int) - ((next : Int) - 1 - (cov : Int)) := IntWalk.i64_in _ (by omega)
  clear h hn hwl hrm hmx
  go_enter Tryz.func232, Tryz.ntmps232
  go_wp2
  go_quiet (fail)
  go_wp2
  go_ret
  exact ⟨rfl, (Upd.refl _ _).drewN nq⟩
theorem cell_keep_setO {w : World} {g i k : Nat} {v u : Value} (h : w.cell? ⟨g, i, none⟩ = some v) (hne : ¬ k = i) : (w.setCell ⟨g, k, none⟩ u).cell? ⟨g, i, none⟩ = some v := by
  rw [World.cell?_setCell_other _ _ _ _ (fun e => hne (congrArg Addr.off e)), h]
abbrev jaddX (next n : Nat) (op block slot : Int) (d : Bool) (sum : Int) : List Int := recX (next : Int) (((next - 1) / n : Nat) : Int) op block slot d sum
theorem JnGood.add {base n cov next : Nat} {W : List (Nat × Bk)} (h : JnGood base n cov next W) (hroom : next ≤ cov + n) (hmx : next ≤ 1099511627776) {y : Bk} (hy : y.length = 64) : JnGood base n cov (next + 1) (W ++ [(next, y)]) :=
  ⟨fun p hp => by rcases List.mem_append.1 hp with h1 | h1; exact h.w64 p h1; simp at h1; subst h1; exact hy,
   fun p hp => by rcases List.mem_append.1 hp with h1 | h1; have := h.lt p h1; omega; simp at h1; subst h1; simp,
   h.n1, by have := h.wl; simp; omega, by omega, by omega, h.bs⟩
def JaddOut (S : Nat → Prop) (w : World) (j d base n cov next : Nat) (W : List (Nat × Bk)) (y : Bk) (e : Ending) (w' : World) : Prop :=
  e = .returned (.tuple #[.int .i64 (next : Int), .int .i64 0]) ∧ Jn S w' j d base n cov (next + 1) (W ++ [(next, y)]) ∧ Upd S w w'
set_option maxRecDepth 100000 in
set_option maxHeartbeats 4000000 in
theorem jadd {S : Nat → Prop} {w : World} {j d base n cov next : Nat} {W : List (Nat × Bk)} (h : Jn S w j d base n cov next W) (hn : ∀ k, w.heap.size ≤ k → S k) (hN : Nib w) (hSN : ¬ S 0) (hroom : next ≤ cov + n) (hmx : next ≤ 1099511627776)
    (a0 a1 op block slot : Int) (db : Bool) (sum : Int) (hmay : mayR (jaddX next n op block slot db sum) = true) :
    Calls Tryz.prog 239 #[.pointer (some ⟨j, 0, none⟩), .agg (recC a0 a1 op block slot db sum).toArray] w (JaddOut S w j d base n cov next W (sectR (jaddX next n op block slot db sum))) := by
  obtain ⟨vw, h, hS⟩ := h
  have hgd := h.good
  obtain ⟨w1, hw1⟩ : ∃ w1, w1 = w.alloc (.cells (recC a0 a1 op block slot db sum).toArray 101) := ⟨_, rfl⟩
  have hu1 : Upd (fun _ => False) w w1 := by rw [hw1]; exact (Upd.refl _ w).alloc _
  have hg1 : w1.heap[w.heap.size]? = some (.cells (recC a0 a1 op block slot db sum).toArray 101 (0, 0)) := by rw [hw1]; exact heap_alloc_last w _ rfl
  have HRm := Lib.hid (jroom (S := jnS j vw) ⟨vw, h.new hu1, fun _ h => h⟩)
  have q0 : ((n : Int) - ((next : Int) - 1 - (cov : Int)) == 0) = false := by have := hgd.wl; simp; omega
  have q00 : ¬ (n : Int) - ((next : Int) - 1 - (cov : Int)) = 0 := by have := hgd.wl; omega
  have q4 : ¬ 1099511627776 < (next : Int) := by omega
  have hn1 := hgd.n1
  have hnx : 1 ≤ next := by have := hgd.wl; omega
  have H := Lib.hid (And.intro h (And.intro hS (And.intro hn (And.intro hN (And.intro hSN (And.intro hroom (And.intro hmx (And.intro hmay (And.intro hu1 hg1)))))))))
  have HW1 := Lib.hid hw1
  clear h hS hn hN hSN hroom hmay hu1 hg1 hw1 hgd
  go_enter Tryz.func239, Tryz.ntmps239
  go_wp2_with fail
  rw [← HW1.out]
  refine HRm.out.mono ?_
  rintro e w2 ⟨rfl, hu2⟩
  obtain ⟨h, hS, hn, hN, hSN, hroom, -, hmay, hu1, hg1⟩ := H.out
  have hu12 := hu1.trans hu2
  have h2 := h.new hu12
  have hg2 := hu2.blockv hg1
  obtain ⟨-, -, c2, -, c4, -⟩ := h2.c
  obtain ⟨m, hm⟩ : ∃ m, m = w.heap.size := ⟨_, rfl⟩
  have hjm : ¬ j = m := by have := lt_of_block h.str; omega
  rw [← hm] at hg2
  have b0 : w2.cell? ⟨m, 0, none⟩ = some (.int .i64 a0) := cell_of_block hg2 0
  have b1 : w2.cell? ⟨m, 1, none⟩ = some (.int .i64 a1) := cell_of_block hg2 1
  have f0 := frozen_of_block hg2 0
  have f1 := frozen_of_block hg2 1
  have H2 := Lib.hid (And.intro h2 (And.intro hg2 (And.intro hu12 hm)))
  have r1 : IntKind.i64.wrap ((next : Int) - 1) = (next : Int) - 1 := IntWalk.i64_in _ (by omega)
  obtain ⟨lp, hlp⟩ : ∃ lp, lp = (next - 1) / n := ⟨_, rfl⟩
  have hlp1 : lp ≤ next - 1 := by rw [hlp]; exact Nat.div_le_self _ _
  have r2 : IntKind.i64.wrap (((next : Int) - 1).tdiv (n : Int)) = (lp : Int) := by
    rw [show (next : Int) - 1 = ((next - 1 : Nat) : Int) by omega, ← Int.ofNat_tdiv, ← hlp]
    exact IntWalk.i64_in _ (by omega)
  have hn0 : ¬ n = 0 := by omega
  have g21 := heap_setCell_same hg2 0 (.int .i64 (next : Int))
  have b11 : (w2.setCell ⟨m, 0, none⟩ (.int .i64 (next : Int))).cell? ⟨m, 1, none⟩ = some (.int .i64 a1) := cell_of_block g21 1
  have f11 := frozen_of_block g21 1
  have HLp := Lib.hid hlp
  have hu21 := upd_setCell w2 m 0 (.int .i64 (next : Int))
  have H21 := Lib.hid (And.intro g21 hu21)
  rw [← hm]
  clear hlp hlp1 g21 hu21
  clear h hS hn hN hSN hroom hmay hu1 hg1 hu12 h2 hg2 hu2 hm HRm
  go_upto_region 7 with fail
  refine wp_region_held_drew (S := fun W => W.cell? ⟨j, 2, none⟩ = some (.int .i64 (n : Int)) ∧ W.cell? ⟨j, 4, none⟩ = some (.int .i64 (next : Int))) (by kernel_rfl) (by (simp only [World.cell?_drew]); exact ⟨c2, c4⟩) (fun hHeld => ?_)
  refine Wl.i [0, 1, 2, 3, 4, 5, 6, 7, 8, 9, 10, 11, 12, 13, 14] ?_; iterate 15 refine Wl.t hHeld ?_
  refine Wl.o ?_
  refine Wl.r 15 (fun K hK => ?_)
  go_simp
  refine hK.out _ _ (⟨cell_keep_set hHeld.1 (fun e => hjm e.symm), cell_keep_set hHeld.2 (fun e => hjm e.symm)⟩) (fun hH1 => ?_)
  clear hK K
  refine Wl.i [16] (Wl.t hH1 (Wl.o ?_))
  refine Wl.r 17 (fun K hK => ?_)
  go_simp
  refine hK.out _ _ (⟨cell_keep_set hH1.1 (fun e => hjm e.symm), cell_keep_set hH1.2 (fun e => hjm e.symm)⟩) (fun hH2 => ?_)
  clear hK K
  refine Wl.d ?_
  clear hHeld hH1 hH2 c2 c4 b0 b1 f0 f1 r1 r2 hn0 b11 f11
  obtain ⟨w3, hw3⟩ : ∃ w3, w3 = ((w2.setCell ⟨m, 0, none⟩ (.int .i64 (next : Int))).setCell ⟨m, 1, none⟩ (.int .i64 (lp : Int))).drew := ⟨_, rfl⟩
  rw [← hw3]
  have hu3 : Upd (fun k => k = m) w2 w3 := by rw [hw3]; exact (H21.out.2.trans (upd_setCell _ m 1 _)).drew
  have hg3 : w3.heap[m]? = some (.cells (recC (next : Int) (lp : Int) op block slot db sum).toArray 101 (0, 0)) := by
    rw [hw3]
    exact (((Upd.refl (fun _ => False) _).drew).blockv (heap_setCell_same H21.out.1 1 (.int .i64 (lp : Int)))).trans (by simp)
  obtain ⟨h, hS, hn, hN, hSN, hroom, -, hmay, hu1, hg1⟩ := H.out
  obtain ⟨h2, hg2, hu12, hm⟩ := H2.out
  have hjs : ∀ k, jnS j vw k → ¬ k = m := fun k hk e => by have := h.slt k hk; omega
  have h3 := h2.keep hu3 hjs
  have hN3 : Nib w3 := (hN.keep hu12 (fun h => h)).keep hu3 (fun e => by have := hN.lt; omega)
  obtain ⟨y, hy⟩ : ∃ y, y = sectR (recX (next : Int) (lp : Int) op block slot db sum) := ⟨_, rfl⟩
  have hyl : y.length = 64 := by rw [hy]; exact sectR_len rfl
  have HP := Lib.hid (PutR_any hN3 (recC (next : Int) (lp : Int) op block slot db sum) rfl (recX (next : Int) (lp : Int) op block slot db sum) rfl (fun W => tellR _ _ _ _ _ _ _ W))
  have hmay' : mayR (recX (next : Int) (lp : Int) op block slot db sum) = true := by rw [HLp.out]; exact hmay
  have rX := range_of_block hg3
  have H3 := Lib.hid (And.intro h3 (And.intro hg3 (And.intro hu3 (And.intro hjs (And.intro hmay' (And.intro hy hyl))))))
  clear h hS hn hN hSN hroom hmay hu1 hg1 h2 hg2 hu12 hm hjs h3 hN3 hmay' hy hw3 hu3 hg3
  go_wp2_with (first
    | (refine wpList_load_mid rfl _ _ rfl _ _ rfl _ _ rX Tryz.underlying101 rfl (by rw [show (recC (next : Int) (lp : Int) op block slot db sum).length = 7 from rfl]; exact infoThR) ?_)
    | fail)
  refine HP.out.mono ?_
  rintro e w4 ⟨he, hb4⟩
  obtain rfl : e = .returned (.tuple #[.agg (bkC y).toArray, .int .i64 0]) := by
    rcases he with ⟨-, he⟩ | ⟨hf, -⟩
    · rw [he, H3.out.2.2.2.2.2.1]
    · rw [H3.out.2.2.2.2.1] at hf; cases hf
  have hu4 : Upd (fun _ => False) w3 w4 := Upd.of_below hb4
  obtain ⟨w5, hw5⟩ : ∃ w5, w5 = w4.alloc (.cells (bkC y).toArray 54) := ⟨_, rfl⟩
  have hu5 : Upd (fun _ => False) w4 w5 := by rw [hw5]; exact (Upd.refl _ w4).alloc _
  have hg5 : w5.heap[w4.heap.size]? = some (.cells (bkC y).toArray 54 (0, 0)) := by rw [hw5]; exact heap_alloc_last w4 _ rfl
  have hu35 := hu4.trans hu5
  have h5 := H3.out.1.new hu35
  have hyl := H3.out.2.2.2.2.2.2
  have siY := Lib.hid (sizeBk y hyl)
  have oneY := Lib.hid (bkC_one y)
  have lnY : Hid ((bkC y).length = 64) := by show _ = _; rw [bkC_len, hyl]
  obtain ⟨i, z, hi, hz, hzs, hsz, hby⟩ := infoWr_partsT
  have hu : Upd (fun _ => False) w5 (w5.alloc (.cells (wrC (next : Int) y).toArray 289)).drew := ((Upd.refl _ _).alloc _).drew
  have hd := h5.new hu
  have hrd : Rd (w5.alloc (.cells (wrC (next : Int) y).toArray 289)).drew 65 (.slice (some ⟨w5.heap.size, 0, none⟩) 1 1) 1 (wrC (next : Int) y) :=
    Rd.keep (Rd.fresh w5 (wrC (next : Int) y) 289 1 (by rw [wrC_len, hyl]) (by unfold maxLen; omega)) ((Upd.refl (fun _ => False) _).drew) (fun _ _ h => h)
  have hWl : W.length ≤ 1024 := by have := H.out.1.good; have := this.wl; have := H.out.2.2.2.2.2.1; omega
  obtain ⟨v', w6, hrun, hs1, hu6, hbf⟩ := run_append_sl 274 274 i z 72 Tryz.underlying274 hi hz hsz hby hzs (by decide) hd.ws hrd (wrC_one (next : Int) y) (by unfold maxLen; omega) (by omega)
  rw [← opC_snoc] at hs1
  have hln : W.length + 1 = (W ++ [(next, y)]).length := by simp
  rw [hln] at hs1
  obtain ⟨ao1, c1', rfl⟩ := hs1.rd.nil_iff
  have hstr6 := (hu6.block j (lt_of_block hd.str) (fun e => hd.wb e)).trans hd.str
  have k5 := cell_of_block hstr6 5
  have z5 := frozen_of_block hstr6 5
  have k4 := cell_of_block hstr6 4
  simp at k4 k5
  obtain ⟨-, -, -, -, c4, c5⟩ := h5.c
  have hg5m := hu35.blockv H3.out.2.1
  have rY := range_of_block hg5
  have hbl := built_wrT (next : Int) y hyl
  have hut := Tryz.underlying54
  have hsi := sizeBk y hyl
  have hlx : (bkC y).length = 64 := by rw [bkC_len, hyl]
  have h1x := bkC_one y
  obtain ⟨p6, hp6⟩ : ∃ p6, p6 = w4.heap.size := ⟨_, rfl⟩
  rw [← hp6] at rY hg5
  have hvlt : ∀ g, vw.ownBlock = some g → g < w.heap.size := fun g hg => H.out.1.ws.lt hg
  have hmw := H2.out.2.2.2
  have hsz4 : w.heap.size < w4.heap.size := by
    have h1 := lt_of_block H3.out.2.1
    have h2 := hu4.size
    omega
  have q4 := hu6.cellv (cell_keep_alloc c4 _) (fun e => hd.wb e)
  have qY := hu6.range (World.rangeAt_alloc rY _) (fun e => by have := hvlt _ e; omega)
  have hjp : ¬ j = p6 := by have := lt_of_block H.out.1.str; omega
  have d5 := cell_keep_alloc c5 (.cells (wrC (next : Int) y).toArray 289)
  have n4 := World.new_ne w5 _ c5
  have HX := Lib.hid (And.intro hbf (And.intro hu (And.intro hu6 (And.intro hs1 (And.intro hstr6 (And.intro hu35 (And.intro hg5m (And.intro hvlt hsz4))))))))
  have HW5 := Lib.hid hw5
  have HP6 := Lib.hid hp6
  clear hbf hu hu6 hs1 hstr6 hu35 hg5m hvlt hsz4 hd hrd hb4 he hu4 hu5 h5 hw5 rX hln hmw hp6 hWl
  go_wp2_with (first
    | (refine wpList_store_new rfl _ _ _ rfl _ _ _ rfl rfl (by rw [lnY.out]; rfl) siY.out oneY.out ?_)
    | fail)
  rw [← HW5.out, ← HP6.out]
  refine wp_region_held_drew (S := fun W => W.cell? ⟨j, 4, none⟩ = some (.int .i64 (next : Int)) ∧ W.rangeAt p6 0 (bkC y)) (by kernel_rfl) (⟨by rw [World.cell?_drew]; exact c4, by rw [World.rangeAt_drew]; exact rY⟩) (fun hHeld => ?_)
  refine Wl.i [0, 1, 2, 3, 5, 6, 7, 8] ?_; iterate 8 refine Wl.t hHeld ?_
  refine Wl.o ?_
  refine Wl.l 9 (fun w h => h.2) hut hsi hHeld ?_
  refine Wl.i [10] (Wl.t hHeld (Wl.o ?_))
  refine wpAnyH_ready (rs := [4, 11]) (by kernel_rfl) (by simp) ?_
  refine AllReadyH.cons rfl (fun K hK => ?_) (AllReadyH.cons rfl (fun K hK => ?_) AllReadyH.nil)
  · go_simp
    refine hK.out _ _ ((by (go_split_ands; (simp only [World.rangeAt_drew, World.cell?_drew] at *); ((repeat' constructor) <;> first | assumption | (apply cell_keep_alloc; assumption) | (refine cell_keep_set ?_ ?_ <;> assumption) | (refine range_keep_set ?_ ?_ <;> assumption) | (apply World.rangeAt_alloc; assumption) | (apply World.there_alloc; assumption))))) (fun hH1 => ?_)
    clear hK K
    refine Wl.r 11 (fun K hK => ?_)
    go_simp
    refine hK.out _ _ ((by (go_split_ands; (simp only [World.rangeAt_drew, World.cell?_drew] at *); ((repeat' constructor) <;> first | assumption | (apply cell_keep_alloc; assumption) | (refine cell_keep_set ?_ ?_ <;> assumption) | (refine range_keep_set ?_ ?_ <;> assumption) | (apply World.rangeAt_alloc; assumption) | (apply World.there_alloc; assumption))))) (fun hH2 => ?_)
    clear hK K
    refine Wl.r 12 (fun K hK => ?_)
    refine step_append_run rfl _ _ _ rfl rfl rfl hrun ?_
    refine hK.out _ _ (⟨q4, qY⟩) (fun hH3 => ?_)
    clear hK K
    refine Wl.i [13, 14] ?_; iterate 2 refine Wl.t hH3 ?_
    refine Wl.o ?_
    refine Wl.r 15 (fun K hK => ?_)
    go_simp
    refine hK.out _ _ (⟨cell_keep_setO hH3.1 (by decide), range_keep_set hH3.2 hjp⟩) (fun _ => ?_)
    clear hK K
    refine Wl.d ?_
    clear hH1 hH2 hH3 hHeld k5 z5 c4 c5 rY hbl hut hsi hlx h1x q4 qY d5 n4 hrun k4 hyl
    obtain ⟨hbf, hu, hu6, hs1, hstr6, hu35, hg5m, hvlt, hsz4⟩ := HX.out
    have hl' : (W ++ [(next, y)]).length = W.length + 1 := by simp
    rw [hl'] at hs1 hbf
    obtain ⟨u, hu0⟩ : ∃ u : Value, u = .slice ao1 (W.length + 1) c1' := ⟨_, rfl⟩
    rw [← hu0] at hs1 hbf
    obtain ⟨w7, hw7⟩ : ∃ w7, w7 = w6.setCell ⟨j, 5, none⟩ (.slice ao1 (W.length + 1) c1') := ⟨_, rfl⟩
    rw [← hw7]
    have hu7 : Upd (fun k => k = j) w6 w7 := by rw [hw7]; exact upd_setCell _ _ _ _
    have g7 : w7.heap[j]? = some (.cells #[.pointer (some ⟨d, 0, none⟩), .int .i64 base, .int .i64 n, .int .i64 cov, .int .i64 next, u] 276 (0, 0)) := by rw [hw7, hu0]; exact (heap_setCell_same hstr6 5 _).trans (by simp)
    have d4 : w7.cell? ⟨j, 4, none⟩ = some (.int .i64 (next : Int)) := cell_of_block g7 4
    have z4 := frozen_of_block g7 4
    have hnm : ¬ m = j := fun e => hjm e.symm
    have hg7m := (hu7.block m (Nat.lt_of_lt_of_le (lt_of_block hg5m) (Nat.le_trans hu.size hu6.size)) hnm).trans ((hu6.block m (Nat.lt_of_lt_of_le (lt_of_block hg5m) hu.size) (fun e => by have := hvlt m e; have := H2.out.2.2.2; omega)).trans (hu.blockv hg5m))
    have m0 : (w7.setCell ⟨j, 4, none⟩ (.int .i64 ((next : Int) + 1))).cell? ⟨m, 0, none⟩ = some (.int .i64 (next : Int)) := cell_keep_set (cell_of_block hg7m 0) (fun e => hnm e.symm)
    have r1 : IntKind.i64.wrap ((next : Int) + 1) = (next : Int) + 1 := IntWalk.i64_in _ (by omega)
    have HY := Lib.hid (And.intro hs1 (And.intro hbf (And.intro hu7 (And.intro g7 hu0))))
    clear hbf hu hu6 hs1 hstr6 hu35 hg5m hvlt hsz4 hl' hu0 hw7 hu7 g7 hg7m hnm
    go_wp2
    go_ret2
    obtain ⟨hs1, hbf, hu7, g7, hu0⟩ := HY.out
    obtain ⟨-, hu, hu6, -, -, hu35, -, hvlt, hsz4⟩ := HX.out
    obtain ⟨h, hS, hn, -⟩ := H.out
    have hU5 : Upd S w w5 := ((H2.out.2.2.1.mono (fun _ _ h => h.elim)).trans (H3.out.2.2.1.mono (fun k _ e => hn k (by rw [e, H2.out.2.2.2]; exact Nat.le_refl _)))).trans (hu35.mono (fun _ _ h => h.elim))
    have hU6 : Upd S w w6 := hU5.trans ((hu.mono (fun _ _ h => h.elim)).trans (hu6.mono (fun k _ hk => hS k (.inr hk))))
    have hub : u.ownBlock ≠ some j := fun e => by
      rcases hbf with h1 | ⟨g, h1, hle⟩
      · exact h.wb (by rw [← h1]; exact e)
      · rw [h1] at e; cases e; have := lt_of_block h.str; have := hU5.size; have := hu.size; omega
    have hu8 : Upd (fun k => k = j) w7 (w7.setCell ⟨j, 4, none⟩ (.int .i64 ((next : Int) + 1))) := upd_setCell _ _ _ _
    have hyy : sectR (jaddX next n op block slot db sum) = y := by rw [H3.out.2.2.2.2.2.1, HLp.out]
    rw [hyy]
    refine ⟨rfl, ⟨u, ⟨(heap_setCell_same g7 4 _).trans (by simp), ?_, hub, h.good.add H.out.2.2.2.2.2.1 hmx H3.out.2.2.2.2.2.2⟩, ?_⟩, hU6.trans ((hu7.trans hu8).mono (fun k _ e => e ▸ hS j (.inl rfl)))⟩
    · rw [List.length_append]
      exact (hs1.keep_ne hu7 hub).keep_ne hu8 hub
    · rintro k (rfl | hk)
      · exact hS _ (.inl rfl)
      · rcases hbf with h1 | ⟨g, h1, hle⟩
        · exact hS _ (.inr (by rw [← h1]; exact hk))
        · rw [h1] at hk; cases hk; exact hn _ (by have := hU5.size; have := hu.size; omega)
  · go_simp
    refine hK.out _ _ ((by (go_split_ands; (simp only [World.rangeAt_drew, World.cell?_drew] at *); ((repeat' constructor) <;> first | assumption | (apply cell_keep_alloc; assumption) | (refine cell_keep_set ?_ ?_ <;> assumption) | (refine range_keep_set ?_ ?_ <;> assumption) | (apply World.rangeAt_alloc; assumption) | (apply World.there_alloc; assumption))))) (fun hH1 => ?_)
    clear hK K
    refine Wl.r 4 (fun K hK => ?_)
    go_simp
    refine hK.out _ _ ((by (go_split_ands; (simp only [World.rangeAt_drew, World.cell?_drew] at *); ((repeat' constructor) <;> first | assumption | (apply cell_keep_alloc; assumption) | (refine cell_keep_set ?_ ?_ <;> assumption) | (refine range_keep_set ?_ ?_ <;> assumption) | (apply World.rangeAt_alloc; assumption) | (apply World.there_alloc; assumption))))) (fun hH2 => ?_)
    clear hK K
    refine Wl.r 12 (fun K hK => ?_)
    refine step_append_run rfl _ _ _ rfl rfl rfl hrun ?_
    refine hK.out _ _ (⟨q4, qY⟩) (fun hH3 => ?_)
    clear hK K
    refine Wl.i [13, 14] ?_; iterate 2 refine Wl.t hH3 ?_
    refine Wl.o ?_
    refine Wl.r 15 (fun K hK => ?_)
    go_simp
    refine hK.out _ _ (⟨cell_keep_setO hH3.1 (by decide), range_keep_set hH3.2 hjp⟩) (fun _ => ?_)
    clear hK K
    refine Wl.d ?_
    clear hH1 hH2 hH3 hHeld k5 z5 c4 c5 rY hbl hut hsi hlx h1x q4 qY d5 n4 hrun k4 hyl
    obtain ⟨hbf, hu, hu6, hs1, hstr6, hu35, hg5m, hvlt, hsz4⟩ := HX.out
    have hl' : (W ++ [(next, y)]).length = W.length + 1 := by simp
    rw [hl'] at hs1 hbf
    obtain ⟨u, hu0⟩ : ∃ u : Value, u = .slice ao1 (W.length + 1) c1' := ⟨_, rfl⟩
    rw [← hu0] at hs1 hbf
    obtain ⟨w7, hw7⟩ : ∃ w7, w7 = w6.setCell ⟨j, 5, none⟩ (.slice ao1 (W.length + 1) c1') := ⟨_, rfl⟩
    rw [← hw7]
    have hu7 : Upd (fun k => k = j) w6 w7 := by rw [hw7]; exact upd_setCell _ _ _ _
    have g7 : w7.heap[j]? = some (.cells #[.pointer (some ⟨d, 0, none⟩), .int .i64 base, .int .i64 n, .int .i64 cov, .int .i64 next, u] 276 (0, 0)) := by rw [hw7, hu0]; exact (heap_setCell_same hstr6 5 _).trans (by simp)
    have d4 : w7.cell? ⟨j, 4, none⟩ = some (.int .i64 (next : Int)) := cell_of_block g7 4
    have z4 := frozen_of_block g7 4
    have hnm : ¬ m = j := fun e => hjm e.symm
    have hg7m := (hu7.block m (Nat.lt_of_lt_of_le (lt_of_block hg5m) (Nat.le_trans hu.size hu6.size)) hnm).trans ((hu6.block m (Nat.lt_of_lt_of_le (lt_of_block hg5m) hu.size) (fun e => by have := hvlt m e; have := H2.out.2.2.2; omega)).trans (hu.blockv hg5m))
    have m0 : (w7.setCell ⟨j, 4, none⟩ (.int .i64 ((next : Int) + 1))).cell? ⟨m, 0, none⟩ = some (.int .i64 (next : Int)) := cell_keep_set (cell_of_block hg7m 0) (fun e => hnm e.symm)
    have r1 : IntKind.i64.wrap ((next : Int) + 1) = (next : Int) + 1 := IntWalk.i64_in _ (by omega)
    have HY := Lib.hid (And.intro hs1 (And.intro hbf (And.intro hu7 (And.intro g7 hu0))))
    clear hbf hu hu6 hs1 hstr6 hu35 hg5m hvlt hsz4 hl' hu0 hw7 hu7 g7 hg7m hnm
    go_wp2
    go_ret2
    obtain ⟨hs1, hbf, hu7, g7, hu0⟩ := HY.out
    obtain ⟨-, hu, hu6, -, -, hu35, -, hvlt, hsz4⟩ := HX.out
    obtain ⟨h, hS, hn, -⟩ := H.out
    have hU5 : Upd S w w5 := ((H2.out.2.2.1.mono (fun _ _ h => h.elim)).trans (H3.out.2.2.1.mono (fun k _ e => hn k (by rw [e, H2.out.2.2.2]; exact Nat.le_refl _)))).trans (hu35.mono (fun _ _ h => h.elim))
    have hU6 : Upd S w w6 := hU5.trans ((hu.mono (fun _ _ h => h.elim)).trans (hu6.mono (fun k _ hk => hS k (.inr hk))))
    have hub : u.ownBlock ≠ some j := fun e => by
      rcases hbf with h1 | ⟨g, h1, hle⟩
      · exact h.wb (by rw [← h1]; exact e)
      · rw [h1] at e; cases e; have := lt_of_block h.str; have := hU5.size; have := hu.size; omega
    have hu8 : Upd (fun k => k = j) w7 (w7.setCell ⟨j, 4, none⟩ (.int .i64 ((next : Int) + 1))) := upd_setCell _ _ _ _
    have hyy : sectR (jaddX next n op block slot db sum) = y := by rw [H3.out.2.2.2.2.2.1, HLp.out]
    rw [hyy]
    refine ⟨rfl, ⟨u, ⟨(heap_setCell_same g7 4 _).trans (by simp), ?_, hub, h.good.add H.out.2.2.2.2.2.1 hmx H3.out.2.2.2.2.2.2⟩, ?_⟩, hU6.trans ((hu7.trans hu8).mono (fun k _ e => e ▸ hS j (.inl rfl)))⟩
    · rw [List.length_append]
      exact (hs1.keep_ne hu7 hub).keep_ne hu8 hub
    · rintro k (rfl | hk)
      · exact hS _ (.inl rfl)
      · rcases hbf with h1 | ⟨g, h1, hle⟩
        · exact hS _ (.inr (by rw [← h1]; exact hk))
        · rw [h1] at hk; cases hk; exact hn _ (by have := hU5.size; have := hu.size; omega)
set_option maxRecDepth 100000 in
set_option maxHeartbeats 1000000 in
theorem jcom1 {T : Nat → Prop} {w : World} {j d base n cov next : Nat} {vw : Value} {W : List (Nat × Bk)} (h : JnAt w j vw d base n cov next W) {g0 : Nat} (c0 : w.cell? ⟨g0, 0, none⟩ = some (.pointer (some ⟨j, 0, none⟩)))
    {F : List Bk} {O : List (Nat × Bk)} {P : List Int} (hd : Dv T w d F O P) (hn : ∀ k, w.heap.size ≤ k → T k) (hTj : ¬ T j) (hTg : ¬ T g0) (s : Nat) (hs1 : 1 ≤ s) (hs2 : s < next) (y : Bk) (hy : y.length = 64) (hbn : base + n ≤ F.length) (hO : O.length < 65536) :
    Calls Tryz.prog 175 #[.agg (wrC (s : Int) y).toArray, .pointer (some ⟨g0, 0, none⟩)] w (Out T w d (writeR F O P (base + (s - 1) % n) y)) := by
  have hgd := h.good
  have hn1 := hgd.n1
  have hbs := hgd.bs
  have hmx := hgd.mx
  obtain ⟨w1, hw1⟩ : ∃ w1, w1 = w.alloc (.cells (wrC (s : Int) y).toArray 289) := ⟨_, rfl⟩
  have hu1 : Upd (fun _ => False) w w1 := by rw [hw1]; exact (Upd.refl _ w).alloc _
  have hg1 : w1.heap[w.heap.size]? = some (.cells (wrC (s : Int) y).toArray 289 (0, 0)) := by rw [hw1]; exact heap_alloc_last w _ rfl
  obtain ⟨r0, r1, r2, -, -, -⟩ := (h.new hu1).c
  have rr := range_of_block hg1
  have m0 : w1.cell? ⟨w.heap.size, 0, none⟩ = some (.int .i64 (s : Int)) := cell_of_block hg1 0
  have rY : w1.rangeAt w.heap.size 1 (bkC y) := fun i v hv => by
    have := rr (1 + i) v (by rw [Nat.add_comm]; exact hv)
    rw [Nat.zero_add] at this; exact this
  have hc0 := hu1.cellv c0 (fun h => h)
  obtain ⟨lp, hlp⟩ : ∃ lp, lp = (s - 1) % n := ⟨_, rfl⟩
  have hlp1 : lp < n := by rw [hlp]; exact Nat.mod_lt _ (by omega)
  obtain ⟨sc, hsc⟩ : ∃ sc, sc = base + lp := ⟨_, rfl⟩
  have k1 : IntKind.i64.wrap ((s : Int) - 1) = (s : Int) - 1 := IntWalk.i64_in _ (by omega)
  have k2 : IntKind.i64.wrap (((s : Int) - 1).tmod (n : Int)) = (lp : Int) := by
    rw [show (s : Int) - 1 = ((s - 1 : Nat) : Int) by omega, ← Int.ofNat_tmod, ← hlp]
    exact IntWalk.i64_in _ (by omega)
  have k3 : IntKind.i64.wrap ((base : Int) + (lp : Int)) = (sc : Int) := by
    rw [hsc, Int.natCast_add]
    exact IntWalk.i64_in _ (by omega)
  have k4 : IntKind.i64.wrap ((base : Int) + ((s : Int) - 1).tmod (n : Int)) = (sc : Int) := by
    rw [show (s : Int) - 1 = ((s - 1 : Nat) : Int) by omega, ← Int.ofNat_tmod, ← hlp]; exact k3
  have hn0 : ¬ n = 0 := by omega
  have hut := Tryz.underlying54
  have hsi := sizeBk y hy
  have hsF : sc < F.length := by omega
  have hd1 : Dv (fun k => T k ∧ k ≠ w.heap.size) w1.drew d F O P := ((hd.but (Nat.le_refl _)).keep hu1 (fun _ _ h => h)).keep ((Upd.refl (fun _ => False) _).drew) (fun _ _ h => h)
  have hw1s : w.heap.size + 1 ≤ w1.drew.heap.size := by rw [hw1]; simp
  have hu1d : Upd T w w1.drew := (hu1.drew).mono (fun _ _ h => h.elim)
  rw [← hlp, ← hsc]
  have HD := Lib.hid (And.intro hd1 (And.intro (fun k (hk : w1.drew.heap.size ≤ k) => (⟨hn k (by omega), by omega⟩ : T k ∧ k ≠ w.heap.size)) (And.intro hsF (And.intro hy (And.intro hO hu1d)))))
  have HW1 := Lib.hid hw1
  have HT := Lib.hid (And.intro hTj hTg)
  obtain ⟨m, hm⟩ : ∃ m, m = w.heap.size := ⟨_, rfl⟩
  rw [← hm] at m0 rY HD
  have HM := Lib.hid hm
  clear hTj hTg hd1 hn hsF hO hw1s hu1d hw1 hu1 hg1 hd h c0 hgd rr hlp hsc hlp1 hy hm hbn hbs hmx hs1 hs2 hn1
  go_enter Tryz.func175, Tryz.ntmps175
  go_wp2
  rw [← HW1.out, ← HM.out]
  refine wp_region_held_drew (S := fun W => W.cell? ⟨g0, 0, none⟩ = some (.pointer (some ⟨j, 0, none⟩)) ∧ W.cell? ⟨j, 0, none⟩ = some (.pointer (some ⟨d, 0, none⟩)) ∧ W.cell? ⟨j, 1, none⟩ = some (.int .i64 (base : Int)) ∧ W.cell? ⟨j, 2, none⟩ = some (.int .i64 (n : Int)) ∧ W.cell? ⟨m, 0, none⟩ = some (.int .i64 (s : Int)) ∧ W.rangeAt m 1 (bkC y)) (by kernel_rfl) (by (simp only [World.cell?_drew, World.rangeAt_drew]); exact ⟨hc0, r0, r1, r2, m0, rY⟩) (fun hHeld => ?_)
  refine Wl.i [0, 1, 2, 3, 4, 5, 6, 7, 8, 9, 10, 11, 12, 13, 14, 15, 16, 17] ?_; iterate 18 refine Wl.t hHeld ?_
  refine Wl.o ?_
  refine Wl.l 18 (fun w h => h.2.2.2.2.2) hut hsi hHeld ?_
  refine Wl.r 19 (fun K hK => ?_)
  go_simp
  refine (dwriteR HD.out.1 HD.out.2.1 sc HD.out.2.2.1 y HD.out.2.2.2.1 HD.out.2.2.2.2.1).mono ?_
  rintro e w2 ⟨rfl, hd2, hu2⟩
  have H2 := Lib.hid (And.intro hd2 (And.intro (((Upd.refl (fun k => T k ∧ k ≠ m) w1).drew).trans hu2) (HD.out.2.2.2.2.2.trans (hu2.mono (fun k _ h => h.1)))))
  clear hd2 hu2
  have hTj : ∀ k, (T k ∧ k ≠ m) → ¬ k = j := fun k hk e => HT.out.1 (e ▸ hk.1)
  have hTg : ∀ k, (T k ∧ k ≠ m) → ¬ k = g0 := fun k hk e => HT.out.2 (e ▸ hk.1)
  refine hK.out _ _ (⟨H2.out.2.1.cellv hc0 (fun h => hTg _ h rfl), H2.out.2.1.cellv r0 (fun h => hTj _ h rfl), H2.out.2.1.cellv r1 (fun h => hTj _ h rfl), H2.out.2.1.cellv r2 (fun h => hTj _ h rfl), H2.out.2.1.cellv m0 (fun h => h.2 rfl), H2.out.2.1.range rY (fun h => h.2 rfl)⟩) (fun hH1 => ?_)
  clear hK K
  refine Wl.r 20 (fun K hK => ?_)
  go_simp
  refine hK.out _ _ (hH1) (fun hH2 => ?_)
  clear hK K
  refine Wl.d ?_
  go_wp2
  go_ret
  exact ⟨rfl, H2.out.1.wide (fun k h => h.1), H2.out.2.2⟩
def comW (base n : Nat) (F : List Bk) : List (Nat × Bk) → List (Nat × Bk) → List Int → DRes
  | [], O, P => ⟨F, O, P, 0⟩
  | (s, y) :: W, O, P => if (writeR F O P (base + (s - 1) % n) y).cd = 0 then comW base n F W (writeR F O P (base + (s - 1) % n) y).O (writeR F O P (base + (s - 1) % n) y).P else writeR F O P (base + (s - 1) % n) y
theorem writeR_F (F : List Bk) (O : List (Nat × Bk)) (P : List Int) (s : Nat) (y : Bk) : (writeR F O P s y).F = F := by
  unfold writeR; split; rfl; split <;> rfl
theorem writeR_O (F : List Bk) (O : List (Nat × Bk)) (P : List Int) (s : Nat) (y : Bk) : (writeR F O P s y).O.length ≤ O.length + 1 := by
  unfold writeR; split; simp; split <;> simp
theorem flushR_F (F : List Bk) (O : List (Nat × Bk)) (P : List Int) : (flushR F O P).O.length ≤ O.length := by
  unfold flushR; split; simp; split <;> simp
theorem comW_F (base n : Nat) (F : List Bk) : ∀ (W O : List (Nat × Bk)) (P : List Int), (comW base n F W O P).F = F
  | [], _, _ => rfl
  | (s, y) :: W, O, P => by
    unfold comW
    split
    · exact comW_F base n F W _ _
    · exact writeR_F _ _ _ _ _
theorem comW_O (base n : Nat) (F : List Bk) : ∀ (W O : List (Nat × Bk)) (P : List Int), (comW base n F W O P).O.length ≤ O.length + W.length
  | [], _, _ => by simp [comW]
  | (s, y) :: W, O, P => by
    have h1 := writeR_O F O P (base + (s - 1) % n) y
    unfold comW
    split
    · have := comW_O base n F W (writeR F O P (base + (s - 1) % n) y).O (writeR F O P (base + (s - 1) % n) y).P
      simp only [List.length_cons]; omega
    · simp only [List.length_cons]; omega
abbrev comV (g0 : Nat) : Value := .func (.func 175) #[] #[.pointer (some ⟨g0, 0, none⟩)]
set_option maxRecDepth 100000 in
set_option maxHeartbeats 1000000 in
theorem jfirst {T : Nat → Prop} {w : World} {j d base n cov next : Nat} {vw : Value} {W : List (Nat × Bk)} (h : JnAt w j vw d base n cov next W) (h1 : ∀ p ∈ W, 1 ≤ p.1) {g0 : Nat} (c0 : w.cell? ⟨g0, 0, none⟩ = some (.pointer (some ⟨j, 0, none⟩)))
    {F : List Bk} {O : List (Nat × Bk)} {P : List Int} (hd : Dv T w d F O P) (hn : ∀ k, w.heap.size ≤ k → T k) (hT : ∀ k, jnS j vw k → ¬ T k) (hTg : ¬ T g0) (hbn : base + n ≤ F.length) (hO : O.length + W.length ≤ 65536) :
    Calls Tryz.prog 174 #[vw, comV g0] w (Out T w d (comW base n F W O P)) := by
  obtain ⟨ao, c, rfl⟩ := h.ws.rd.nil_iff
  have H := Lib.hid (And.intro h (And.intro h1 (And.intro c0 (And.intro hn (And.intro hT (And.intro hTg (And.intro hbn (And.intro hO hd))))))))
  clear h h1 c0 hn hT hTg hbn hO hd
  go_enter Tryz.func174, Tryz.ntmps174
  go_wp2
  go_step3
  go_wp2
  go_step3
  go_wp2
  go_loopw [5, 10] (fun s5 s10 wr => ∃ k O' P', k ≤ W.length ∧ s5 = .int .i64 0 ∧ s10 = .int .i64 (k : Int) ∧ Dv T wr d F O' P' ∧ Upd T w wr ∧ comW base n F W O P = comW base n F (W.drop k) O' P' ∧ O'.length ≤ O.length + k) (fun _ s10 _ => W.length - (intOf s10).toNat)
  case atStart => exact ⟨0, O, P, Nat.zero_le _, rfl, rfl, H.out.2.2.2.2.2.2.2.2, Upd.refl _ _, rfl, Nat.le_refl _⟩
  case round =>
    obtain ⟨k, O', P', hk, rfl, rfl, hd, hu, hcom, hOl⟩ := hrel
    by_cases hlt : k < W.length
    · obtain ⟨h, h1, c0, hn, hT, hTg, hbn, hO, -⟩ := H.out
      have h' := h.keep hu hT
      obtain ⟨g, off, cap, e1, hgl, hcap, hr⟩ := h'.range hlt
      cases e1
      have hp1 := h1 W[k] (List.getElem_mem hlt)
      have hWl : W.length ≤ 65536 := by omega
      have hlw := h.good.lt W[k] (List.getElem_mem hlt)
      have h64 := h.good.w64 W[k] (List.getElem_mem hlt)
      have hdr : W.drop k = (W[k].1, W[k].2) :: W.drop (k + 1) := List.drop_eq_getElem_cons hlt
      have b1 : (0 : Int) ≤ (k : Int) := by omega
      have b2 : (k : Int) < (W.length : Int) := by omega
      rw [hdr, comW] at hcom
      obtain ⟨s, hs⟩ : ∃ s, s = W[k].1 := ⟨_, rfl⟩
      obtain ⟨y, hy⟩ : ∃ y, y = W[k].2 := ⟨_, rfl⟩
      rw [← hs, ← hy] at hr hcom
      rw [← hs] at hp1 hlw
      rw [← hy] at h64
      have hu2 : Upd (fun _ => False) wr (wr.alloc (.cells (wrC (s : Int) y).toArray 289)) := (Upd.refl _ _).alloc _
      have hr2 := range_of_block (heap_alloc_last wr (.cells (wrC (s : Int) y).toArray 289) rfl)
      have hub := hu.trans (hu2.mono (fun _ _ h => h.elim))
      have hc := jcom1 (h'.new hu2) (hub.cellv c0 hTg) (hd.keep hu2 (fun _ _ h => h)) (fun k hk => hn k (Nat.le_trans hub.size hk)) (hT j (.inl rfl)) hTg s hp1 hlw y h64 hbn (by omega)
      have hF := writeR_F F O' P' (base + (s - 1) % n) y
      have hO1 := writeR_O F O' P' (base + (s - 1) % n) y
      generalize writeR F O' P' (base + (s - 1) % n) y = r at *
      have HC := Lib.hid (And.intro hc (And.intro hub (And.intro hF (And.intro hO1 (And.intro hcom (And.intro hOl hk))))))
      clear h h' h1 c0 hn hT hTg hbn hO hu hd hc hub hF hO1 hcom hOl hs hy hdr hp1 hlw hgl hcap hu2 hk
      go_wp2_with (first
        | refine wpList_load_mid rfl _ _ rfl _ _ rfl _ _ hr Tryz.underlying289 rfl (sizeWt _ _ h64) ?_
        | refine wpList_load_mid rfl _ _ rfl _ _ rfl _ _ hr2 Tryz.underlying289 rfl (sizeWt _ _ h64) ?_
        | (refine wpList_store_new rfl _ _ _ rfl _ _ _ rfl rfl (by rw [zero_wt, wrC_len, h64]) (sizeWt _ _ h64) (wrC_one _ _) ?_)
        | fail)
      refine HC.out.1.mono ?_
      rintro e w3 ⟨rfl, hd3, hu3⟩
      have H3 := Lib.hid (And.intro hd3 hu3)
      clear hd3 hu3 hr hr2
      by_cases hcd : r.cd = 0
      · rw [hcd]
        go_wp2
        go_roundw
        case rel =>
          obtain ⟨-, hub, hF, hO1, hcom, hOl, hk⟩ := HC.out
          have hd3 := H3.out.1
          rw [hF] at hd3
          rw [if_pos hcd] at hcom
          exact ⟨k + 1, r.O, r.P, by omega, rfl, by go_num, hd3, hub.trans H3.out.2, hcom, by omega⟩
        case measure => simp [intOf]; omega
      · have q0 : (r.cd == 0) = false := by simpa using hcd
        go_wp2
        go_ret
        obtain ⟨-, hub, hF, hO1, hcom, hOl, hk⟩ := HC.out
        rw [if_neg hcd] at hcom
        rw [hcom]
        exact ⟨rfl, H3.out.1, hub.trans H3.out.2⟩
    · obtain rfl : k = W.length := by omega
      have HC := Lib.hid (And.intro hd (And.intro hu hcom))
      clear hd hu hcom hk hOl
      go_wp2
      go_ret
      obtain ⟨hd, hu, hcom⟩ := HC.out
      rw [hcom, List.drop_length]
      exact ⟨rfl, hd, hu⟩
def comR (base n : Nat) (F : List Bk) (O : List (Nat × Bk)) (P : List Int) (W : List (Nat × Bk)) : DRes × List (Nat × Bk) :=
  if (flushR F O P).cd ≠ 0 ∨ W = [] then (flushR F O P, W)
  else if (comW base n (flushR F O P).F W (flushR F O P).O (flushR F O P).P).cd ≠ 0 then (comW base n (flushR F O P).F W (flushR F O P).O (flushR F O P).P, W)
  else if (flushR (comW base n (flushR F O P).F W (flushR F O P).O (flushR F O P).P).F (comW base n (flushR F O P).F W (flushR F O P).O (flushR F O P).P).O (comW base n (flushR F O P).F W (flushR F O P).O (flushR F O P).P).P).cd ≠ 0 then
    (flushR (comW base n (flushR F O P).F W (flushR F O P).O (flushR F O P).P).F (comW base n (flushR F O P).F W (flushR F O P).O (flushR F O P).P).O (comW base n (flushR F O P).F W (flushR F O P).O (flushR F O P).P).P, W)
  else (flushR (comW base n (flushR F O P).F W (flushR F O P).O (flushR F O P).P).F (comW base n (flushR F O P).F W (flushR F O P).O (flushR F O P).P).O (comW base n (flushR F O P).F W (flushR F O P).O (flushR F O P).P).P, [])
theorem flushR_len (F : List Bk) (O : List (Nat × Bk)) (P : List Int) : (flushR F O P).F.length = F.length := by
  unfold flushR; split; rfl; split; exact flushF_len _ _; rfl
def ComOut (T : Nat → Prop) (w : World) (j : Nat) (vw : Value) (d base n cov next : Nat) (r : DRes × List (Nat × Bk)) (e : Ending) (w' : World) : Prop :=
  e = .returned (.int .i64 r.1.cd) ∧ Dv T w' d r.1.F r.1.O r.1.P ∧ (∃ vw', JnAt w' j vw' d base n cov next r.2 ∧ (vw' = vw ∨ vw'.ownBlock = none)) ∧ Upd (fun k => T k ∨ k = j) w w'
set_option maxRecDepth 100000 in
set_option maxHeartbeats 1000000 in
theorem jcommit {T : Nat → Prop} {w : World} {j d base n cov next : Nat} {vw : Value} {W : List (Nat × Bk)} (h : JnAt w j vw d base n cov next W) (h1 : ∀ p ∈ W, 1 ≤ p.1)
    {F : List Bk} {O : List (Nat × Bk)} {P : List Int} (hd : Dv T w d F O P) (hn : ∀ k, w.heap.size ≤ k → T k) (hT : ∀ k, jnS j vw k → ¬ T k) (hbn : base + n ≤ F.length) (hO : O.length + W.length ≤ 65536) :
    Calls Tryz.prog 101 #[.pointer (some ⟨j, 0, none⟩)] w (ComOut T w j vw d base n cov next (comR base n F O P W)) := by
  have hmf : ∀ (fn : Fn) (first cap : Array Value) (w : World), (Instr.makeFunc fn first cap).run Tryz.prog w = .ok (.func fn first cap) w := fun _ _ _ _ => rfl
  obtain ⟨ao, c, rfl⟩ := h.ws.rd.nil_iff
  obtain ⟨w1, hw1⟩ : ∃ w1, w1 = w.alloc (.cells #[.pointer (some ⟨j, 0, none⟩)] 166) := ⟨_, rfl⟩
  have hu1 : Upd (fun _ => False) w w1 := by rw [hw1]; exact (Upd.refl _ w).alloc _
  have hg1 : w1.heap[w.heap.size]? = some (.cells #[.pointer (some ⟨j, 0, none⟩)] 166 (0, 0)) := by rw [hw1]; exact heap_alloc_last w _ rfl
  obtain ⟨m, hm⟩ : ∃ m, m = w.heap.size := ⟨_, rfl⟩
  have hmw1 : w1.heap.size = m + 1 := by rw [hw1, hm]; simp
  have hd1 : Dv (fun k => T k ∧ k ≠ m) w1 d F O P := (hd.but (by omega)).keep hu1 (fun _ _ h => h)
  have hn1 : ∀ k, w1.heap.size ≤ k → T k ∧ k ≠ m := fun k hk => ⟨hn k (by omega), by omega⟩
  have h1j := h.new hu1
  have g0 := cell_of_block hg1 0
  rw [← hm] at g0 hg1
  obtain ⟨c0, -, -, -, -, c5⟩ := h1j.c
  have HF := Lib.hid (dflushR hd1 hn1)
  have hjm : ∀ k, jnS j (.slice ao W.length c) k → ¬ (T k ∧ k ≠ m) := fun k hk ht => hT k hk ht.1
  have H := Lib.hid (And.intro h1j (And.intro h1 (And.intro hn1 (And.intro hjm (And.intro hbn (And.intro hO (And.intro hu1 (And.intro hg1 (And.intro hm (And.intro hmw1 hT))))))))))
  have c0' := c0
  rw [hw1] at c0'
  have HW1 := Lib.hid hw1
  have HM := Lib.hid hm
  clear h h1 hd hn hT hbn hO hu1 hd1 hn1 h1j hg1 hjm hw1 hm hmw1
  have g0' : w1.cell? ⟨m, 0, none⟩ = some (.pointer (some ⟨j, 0, none⟩)) := g0
  go_enter Tryz.func101, Tryz.ntmps101
  go_wp2_with fail
  rw [← HW1.out, ← HM.out]
  clear c0'
  refine HF.out.mono ?_
  rintro e w2 ⟨rfl, hd2, hu2⟩
  obtain ⟨h1j, h1, hn1, hjm, hbn, hO, hu1, hg1, hm, hmw1, hT⟩ := H.out
  have hl1 := flushR_len F O P
  have ho1 := flushR_F F O P
  have hcr : comR base n F O P W = comR base n F O P W := rfl
  conv at hcr => rhs; unfold comR
  generalize comR base n F O P W = R at *
  generalize flushR F O P = r at *
  have hj2 := h1j.keep hu2 hjm
  have gm2 := hu2.cellv g0' (fun h => h.2 rfl)
  obtain ⟨d0, -, -, -, -, d5⟩ := hj2.c
  have H2 := Lib.hid (And.intro hd2 (And.intro hu2 (And.intro hj2 (And.intro hl1 (And.intro ho1 hcr)))))
  clear h1j h1 hn1 hjm hbn hO hu1 hg1 hm hmw1 hT hl1 ho1 hcr hj2 hd2 hu2 HF c0 c5 g0 g0'
  by_cases hcd : r.cd = 0
  · have hcd' := Lib.hid hcd
    rw [hcd]
    clear hcd
    by_cases hW : W.length = 0
    · have hW' := Lib.hid hW
      rw [hW] at d5
      clear hW
      go_wp2
      go_ret
      obtain ⟨hd2, hu2, hj2, hl1, ho1, hcr⟩ := H2.out
      rw [if_pos (Or.inr (List.length_eq_zero_iff.1 hW'.out))] at hcr
      subst hcr
      refine ⟨by rw [hcd'.out]; rfl, hd2.wide (fun k h => h.1), ⟨_, hj2, .inl rfl⟩, ?_⟩
      obtain ⟨h1j, h1, hn1, hjm, hbn, hO, hu1, hg1, hm, hmw1, hT⟩ := H.out
      exact (hu1.mono (fun _ _ h => h.elim)).trans (hu2.mono (fun k _ h => .inl h.1))
    · have hW' := Lib.hid hW
      obtain ⟨hd2, hu2, hj2, hl1, ho1, hcr⟩ := H2.out
      obtain ⟨h1j, h1, hn1, hjm, hbn, hO, hu1, hg1, hm, hmw1, hT⟩ := H.out
      have HC := Lib.hid (jfirst hj2 h1 gm2 hd2 (fun k hk => hn1 k (Nat.le_trans hu2.size hk)) hjm (fun h => h.2 rfl) (by omega) (by omega))
      rw [if_neg (fun e => e.elim (fun h => h hcd'.out) (fun h => hW (by simp [h])))] at hcr
      have hfl := comW_F base n r.F W r.O r.P
      have hol := comW_O base n r.F W r.O r.P
      generalize comW base n r.F W r.O r.P = r2 at *
      have H2' := Lib.hid (And.intro hcr (And.intro hfl hol))
      clear hcr hfl hol h1j h1 hn1 hjm hbn hO hu1 hg1 hm hmw1 hT hd2 hu2 hj2 hl1 ho1 hW
      have hW := hW'.out
      go_wp2_with fail
      refine HC.out.mono ?_
      rintro e w3 ⟨rfl, hd3, hu3⟩
      obtain ⟨hd2, hu2, hj2, hl1, ho1, -⟩ := H2.out
      obtain ⟨h1j, h1, hn1, hjm, hbn, hO, hu1, hg1, hm, hmw1, hT⟩ := H.out
      have hj3 := hj2.keep hu3 hjm
      have gm3 := hu3.cellv gm2 (fun h => h.2 rfl)
      obtain ⟨e0, -, -, -, -, e5⟩ := hj3.c
      have HF3 := Lib.hid (dflushR hd3 (fun k hk => hn1 k (Nat.le_trans (Nat.le_trans hu2.size hu3.size) hk)))
      have hU3 : Upd (fun k => T k ∨ k = j) w w3 := ((hu1.mono (fun _ _ h => h.elim)).trans (hu2.mono (fun k _ h => .inl h.1))).trans (hu3.mono (fun k _ h => .inl h.1))
      have H3 := Lib.hid (And.intro hd3 (And.intro hj3 (And.intro hU3 hjm)))
      clear h1j h1 hn1 hjm hbn hO hu1 hg1 hm hmw1 hT hd2 hu2 hj2 hl1 ho1 hd3 hu3 hj3 hU3 d0 d5 gm2 HC
      by_cases hc2 : r2.cd = 0
      · have hc2' := Lib.hid hc2
        rw [hc2]
        clear hc2
        go_wp2_with fail
        refine HF3.out.mono ?_
        rintro e w4 ⟨rfl, hd4, hu4⟩
        obtain ⟨hcr, hfl, hol⟩ := H2'.out
        obtain ⟨hd3, hj3, hU3, hjm⟩ := H3.out
        rw [if_neg (fun e => e hc2'.out)] at hcr
        generalize flushR r2.F r2.O r2.P = r3 at *
        have hj4 := hj3.keep hu4 hjm
        have gm4 := hu4.cellv gm3 (fun h => h.2 rfl)
        have z5 := hj4.fz 5
        obtain ⟨-, -, -, -, -, k5⟩ := hj4.c
        have hU4 : Upd (fun k => T k ∨ k = j) w w4 := hU3.trans (hu4.mono (fun k _ h => .inl h.1))
        have H4 := Lib.hid (And.intro hcr (And.intro hd4 (And.intro hj4 (And.intro hU4 hjm))))
        clear hcr hfl hol hd3 hj3 hU3 hjm hd4 hu4 hj4 hU4 e0 e5 gm3 HF3
        by_cases hc3 : r3.cd = 0
        · have hc3' := Lib.hid hc3
          rw [hc3]
          clear hc3
          go_wp2
          go_ret
          obtain ⟨hcr, hd4, hj4, hU4, hjm⟩ := H4.out
          rw [if_neg (fun e => e hc3'.out)] at hcr
          subst hcr
          have hu5 := upd_setCell w4 j 5 (.slice none 0 0)
          refine ⟨by rw [hc3'.out]; rfl, (hd4.keep hu5 (fun k hk e => hjm k (.inl e) hk)).wide (fun k h => h.1), ⟨.slice none 0 0, ⟨(heap_setCell_same hj4.str 5 _).trans (by simp), Sl.nil _ _ _, by simp [Value.ownBlock], ⟨by simp, by simp, hj4.good.n1, by have := hj4.good.wl; simp; omega, hj4.good.room, hj4.good.mx, hj4.good.bs⟩⟩, .inr rfl⟩, hU4.trans (hu5.mono (fun k _ e => .inr e))⟩
        · have q0 : (r3.cd == 0) = false := by simpa using hc3
          go_wp2
          go_ret
          obtain ⟨hcr, hd4, hj4, hU4, hjm⟩ := H4.out
          rw [if_pos hc3] at hcr
          subst hcr
          exact ⟨rfl, hd4.wide (fun k h => h.1), ⟨_, hj4, .inl rfl⟩, hU4⟩
      · have q0 : (r2.cd == 0) = false := by simpa using hc2
        go_wp2
        go_ret
        obtain ⟨hcr, -⟩ := H2'.out
        obtain ⟨hd3, hj3, hU3, hjm⟩ := H3.out
        rw [if_pos hc2] at hcr
        subst hcr
        exact ⟨rfl, hd3.wide (fun k h => h.1), ⟨_, hj3, .inl rfl⟩, hU3⟩
  · have q0 : (r.cd == 0) = false := by simpa using hcd
    go_wp2
    go_ret
    obtain ⟨hd2, hu2, hj2, hl1, ho1, hcr⟩ := H2.out
    rw [if_pos (Or.inl hcd)] at hcr
    subst hcr
    refine ⟨rfl, hd2.wide (fun k h => h.1), ⟨_, hj2, .inl rfl⟩, ?_⟩
    obtain ⟨h1j, h1, hn1, hjm, hbn, hO, hu1, hg1, hm, hmw1, hT⟩ := H.out
    exact (hu1.mono (fun _ _ h => h.elim)).trans (hu2.mono (fun k _ h => .inl h.1))
theorem Did.step2 {own : Nat → Nat} {w w' : World} {t s q : Nat} (hf : ∀ j, w.heap.size ≤ j → own j = 0) (ht : t ≠ 0) (h16 : t < 16) (hs : s ≠ 0) (hs16 : s < 16) (hq : own q = s) (hu : Upd (fun j => (own j = t ∨ w.heap.size ≤ j) ∨ j = q) w w') : Did own (grow own t w.heap.size w'.heap.size) w w' where
  upd := hu.mono (fun j hj h => by rcases h with (h | h) | h; exact h ▸ ⟨ht, h16⟩; omega; subst h; rw [hq]; exact ⟨hs, hs16⟩)
  old := fun j hj => grow_old hj
  new := fun j hj => by
    unfold grow
    split
    · exact h16
    · rw [hf j hj]; decide
  far := fun j hj => by
    have := hu.size
    unfold grow
    rw [if_neg (by omega)]
    exact hf j (by omega)
section
variable {R : (Nat → Prop) → World → Prop} {own : Nat → Nat} {w w' : World} {t s k q : Nat}
theorem Thing.other2 (hR : Thing R) (h : R (fun j => own j = k) w) (hk : k ≠ t) (hks : k ≠ s) (hq : own q = s) (hu : Upd (fun j => (own j = t ∨ w.heap.size ≤ j) ∨ j = q) w w') : R (fun j => grow own t w.heap.size w'.heap.size j = k) w' := by
  have h1 : R (fun j => own j = k ∧ j < w.heap.size) w := hR.out h (fun j hj hs => ⟨hs, hj⟩)
  have h2 := hR.keep h1 hu (fun j hs ht => by rcases ht with (ht | ht) | ht; exact hk (hs.1.symm.trans ht); omega; subst ht; exact hks (hs.1.symm.trans hq))
  exact hR.out h2 (fun j hj hs => by rw [grow_old hs.2]; exact hs.1)
end
section
variable {own : Nat → Nat} {w w' : World} {c : Nat} {n : CaN} {p : CaP} {a : CaS}
theorem CaAt.jrOwn (h : CaAt own w c n p a) : own p.jr = 4 ∧ p.jr < w.heap.size := by
  obtain ⟨vw, hj, hS⟩ := h.jr
  exact ⟨hS _ (.inl rfl), lt_of_block hj.str⟩
theorem CaAt.turn24 (h : CaAt own w c n p a) {F : List Bk} {O : List (Nat × Bk)} {P : List Int} {W : List (Nat × Bk)} (hu : Upd (fun j => (own j = 2 ∨ w.heap.size ≤ j) ∨ j = p.jr) w w') (hd : Dv (fun j => own j = 2 ∨ w.heap.size ≤ j) w' p.ssd F O P) (hl : F.length = a.dF.length)
    (hj : Jn (fun j => own j = 4 ∧ j < w.heap.size) w' p.jr p.ssd (1 + 2 * n.pa) n.jo a.cov a.next W) :
    CaAt (grow own 2 w.heap.size w'.heap.size) w' c n p { a with dF := F, dO := O, dP := P, W := W } := by
  have hq := h.jrOwn.1
  exact { h with
    str := (hu.block c h.clt (fun hs => by rcases hs with (hs | hs) | hs; rw [h.oc] at hs; exact absurd hs (by decide); exact absurd h.clt (by omega); have := h.oc; rw [hs, hq] at this; exact absurd this (by decide))).trans h.str
    oc := (grow_old h.clt).trans h.oc
    ssd := (Dv.thing _ _ _ _).mine hu.size hd
    back := (Dv.thing _ _ _ _).other2 h.back (by decide) (by decide) hq hu
    jr := (Jn.thing _ _ _ _ _ _ _).out hj (fun j _ hs => by rw [grow_old hs.2]; exact hs.1)
    ix := (Ix.thing _ _ _ _).other2 h.ix (by decide) (by decide) hq hu
    ss := (Ss.thing _ _).other2 h.ss (by decide) (by decide) hq hu
    lg := (Lg.thing _ _ _).other2 h.lg (by decide) (by decide) hq hu
    ck := (Ck.thing _ _ _ _ _ _ _).other2 h.ck (by decide) (by decide) hq hu
    sm := (Mp.thing _ _ _).other2 h.sm (by decide) (by decide) hq hu
    far := (Did.step2 h.far (t := 2) (s := 4) (by decide) (by decide) (by decide) (by decide) hq hu).far
    nib := h.nib.keep hu (fun hs => by rcases hs with (hs | hs) | hs; rw [h.on] at hs; exact absurd hs (by decide); exact absurd h.nib.lt (by omega); exact absurd (h.on.symm.trans ((congrArg own hs).trans hq)) (by decide))
    tur := h.tur.keep hu (fun hs => by rcases hs with (hs | hs) | hs; rw [h.ot] at hs; exact absurd hs (by decide); exact absurd h.tur.lt (by omega); exact absurd (h.ot.symm.trans ((congrArg own hs).trans hq)) (by decide))
    on := (grow_old h.nib.lt).trans h.on
    ot := (grow_old h.tur.lt).trans h.ot
    fl := hl.trans h.fl }
abbrev CaS.dev (a : CaS) (r : DRes) : CaS := { a with dF := r.F, dO := r.O, dP := r.P }
abbrev CaS.bdev (a : CaS) (r : DRes) : CaS := { a with bF := r.F, bO := r.O, bP := r.P }
theorem ca_ssd_write (h : CaAt own w c n p a) (s : Nat) (hs : s < a.dF.length) (x : Bk) (hx : x.length = 64) (hO : a.dO.length < 65536) :
    Calls Tryz.prog 18 #[ptr p.ssd, .int .i64 (s : Int), .agg (bkC x).toArray] w (CaOut own w c n p (a.dev (writeR a.dF a.dO a.dP s x)) (.int .i64 (writeR a.dF a.dO a.dP s x).cd)) :=
  (dwriteR h.open2 (fun _ h => .inr h) s hs x hx hO).mono fun _ _ ⟨he, hd, hu⟩ => ⟨he, _, h.turn2 hu hd (by rw [writeR_F]), h.did2 hu⟩
theorem ca_back_write (h : CaAt own w c n p a) (s : Nat) (hs : s < a.bF.length) (x : Bk) (hx : x.length = 64) (hO : a.bO.length < 65536) :
    Calls Tryz.prog 18 #[ptr p.back, .int .i64 (s : Int), .agg (bkC x).toArray] w (CaOut own w c n p (a.bdev (writeR a.bF a.bO a.bP s x)) (.int .i64 (writeR a.bF a.bO a.bP s x).cd)) :=
  (dwriteR h.open3 (fun _ h => .inr h) s hs x hx hO).mono fun _ _ ⟨he, hd, hu⟩ => ⟨he, _, h.turn3 hu hd (by rw [writeR_F]), h.did3 hu⟩
def CaRead (own : Nat → Nat) (w : World) (c : Nat) (n : CaN) (p : CaP) (a : CaS) (y0 : Bk) (cd0 : Int) (e : Ending) (w' : World) : Prop :=
  ∃ (y : Bk) (cd : Int), y = y0 ∧ cd = cd0 ∧ y.length = 64 ∧ e = .returned (.tuple #[.agg (bkC y).toArray, .int .i64 cd]) ∧ ∃ own', CaAt own' w' c n p a ∧ Did own own' w w'
theorem ca_ssd_read (h : CaAt own w c n p a) (s : Nat) (hs : s < a.dF.length) :
    Calls Tryz.prog 67 #[ptr p.ssd, .int .i64 (s : Int)] w (CaRead own w c n p { a with dP := a.dP.tail } (if fate a.dP = 1 then zB else curB a.dF a.dO s) (if fate a.dP = 1 then 19 else 0)) :=
  (dreadR h.open2 (fun _ h => .inr h) s hs).mono fun _ _ ⟨y, cd, he, hy, hc, hl, hd, hu⟩ => ⟨y, cd, hy, hc, hl, he, _, h.turn2 hu hd rfl, h.did2 hu⟩
theorem ca_back_read (h : CaAt own w c n p a) (s : Nat) (hs : s < a.bF.length) :
    Calls Tryz.prog 67 #[ptr p.back, .int .i64 (s : Int)] w (CaRead own w c n p { a with bP := a.bP.tail } (if fate a.bP = 1 then zB else curB a.bF a.bO s) (if fate a.bP = 1 then 19 else 0)) :=
  (dreadR h.open3 (fun _ h => .inr h) s hs).mono fun _ _ ⟨y, cd, he, hy, hc, hl, hd, hu⟩ => ⟨y, cd, hy, hc, hl, he, _, h.turn3 hu hd rfl, h.did3 hu⟩
theorem ca_jroom (h : CaAt own w c n p a) : Calls Tryz.prog 232 #[ptr p.jr] w (CaOut own w c n p a (.int .i64 ((n.jo : Int) - ((a.next : Int) - 1 - (a.cov : Int))))) :=
  (jroom h.jr).mono fun _ _ ⟨he, hu⟩ => ⟨he, own, h.new hu, h.didNew hu⟩
theorem ca_jadd (h : CaAt own w c n p a) (hroom : a.next ≤ a.cov + n.jo) (hmx : a.next ≤ 1099511627776) (a0 a1 op block slot : Int) (db : Bool) (sum : Int) (hmay : mayR (jaddX a.next n.jo op block slot db sum) = true) :
    Calls Tryz.prog 239 #[ptr p.jr, .agg (recC a0 a1 op block slot db sum).toArray] w (CaOut own w c n p { a with next := a.next + 1, W := a.W ++ [(a.next, sectR (jaddX a.next n.jo op block slot db sum))] } (.tuple #[.int .i64 (a.next : Int), .int .i64 0])) :=
  (jadd h.open4 (fun _ h => .inr h) h.nib (fun hs => by rcases hs with hs | hs; rw [h.on] at hs; exact absurd hs (by decide); exact absurd h.nib.lt (by omega)) hroom hmx a0 a1 op block slot db sum hmay).mono fun _ _ ⟨he, hj, hu⟩ => ⟨he, _, h.turn4 hu hj, h.did4 hu⟩
abbrev CaS.com (n : CaN) (a : CaS) : DRes × List (Nat × Bk) := comR (1 + 2 * n.pa) n.jo a.dF a.dO a.dP a.W
theorem comR_len (base k : Nat) (F : List Bk) (O : List (Nat × Bk)) (P : List Int) (W : List (Nat × Bk)) : (comR base k F O P W).1.F.length = F.length := by
  unfold comR
  repeat' split
  all_goals simp only [flushR_len, comW_F]
theorem ca_commit (h : CaAt own w c n p a) (h1 : ∀ q ∈ a.W, 1 ≤ q.1) (hO : a.dO.length + a.W.length ≤ 65536) :
    Calls Tryz.prog 101 #[ptr p.jr] w (CaOut own w c n p { a.dev (a.com n).1 with W := (a.com n).2 } (.int .i64 (a.com n).1.cd)) := by
  obtain ⟨vw, hj, hS⟩ := h.jr
  have hfl := h.fl
  have hz := h.ok.z
  unfold CaN.size at hfl
  refine (jcommit hj h1 h.open2 (fun _ h => .inr h) ?_ (by omega) hO).mono ?_
  · intro k hk hs
    have h4 := hS k hk
    rcases hs with hs | hs
    · rw [h4] at hs; exact absurd hs (by decide)
    · have := hj.slt k hk; omega
  · rintro e w' ⟨rfl, hd, ⟨vw', hj', hv⟩, hu⟩
    have hq := h.jrOwn.1
    refine ⟨rfl, _, h.turn24 hu hd (comR_len _ _ _ _ _ _) ⟨vw', hj', ?_⟩, Did.step2 h.far (by decide) (by decide) (by decide) (by decide) hq hu⟩
    rintro k (rfl | hk)
    · exact ⟨hS _ (.inl rfl), lt_of_block hj.str⟩
    · rcases hv with rfl | hv
      · exact ⟨hS _ (.inr hk), hj.slt k (.inr hk)⟩
      · rw [hv] at hk; cases hk
end
end Go.Proofs.YtfhfbpmlnjdfoaaGreatDoor
