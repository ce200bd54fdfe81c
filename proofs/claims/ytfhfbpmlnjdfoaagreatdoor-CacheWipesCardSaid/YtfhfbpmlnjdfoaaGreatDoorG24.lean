/- A new thing of many cells: its cells by a name. A block of noughts that is built: its cells by a name. A cache: Read. A new ledger. A cache that is being made: its struct, and the things that there are as yet. -/
import Derived.Test.YtfhfbpmlnjdfoaaGreatDoorG16
import Derived.Test.YtfhfbpmlnjdfoaaGreatDoorG14
import Derived.Test.YtfhfbpmlnjdfoaaGreatDoorG23
import Derived.Test.YtfhfbpmlnjdfoaaGreatDoorG04
import Derived.Test.YtfhfbpmlnjdfoaaGreatDoorG12
import Derived.Test.YtfhfbpmlnjdfoaaGreatDoorG07
import Derived.Test.YtfhfbpmlnjdfoaaGreatDoorG13
namespace Go.Proofs.YtfhfbpmlnjdfoaaGreatDoor
open Go Go.RowKit
theorem wpList_allocZ {ops : Array Oper} {rest : List Oper} {o : Oper} {a : Act} {w : World} {Q : Exit → Act → World → Prop} (hg : o.guard = none) (t : TypeId) (ho : o.op = .alloc t) (cs : Array Value)
    (hrun : ∀ w : World, (Instr.alloc t true (.tuple #[])).run Tryz.prog w = .ok (.pointer (some ⟨w.heap.size, 0, none⟩)) (w.alloc (.cells cs t)))
    (h : wpList Tryz.prog ops Q rest (a.put o.dst (.pointer (some ⟨w.heap.size, 0, none⟩))) (w.alloc (.cells cs t))) : wpList Tryz.prog ops Q (o :: rest) a w := by
  refine wpList_plain hg fun K' hK' => ?_
  unfold Oper.wp
  simp only [execOp, ho, Sem.run_bind, hrun, Result.andThen_ok]
  exact hK' _ _ h
theorem buildZ_run (Z : Bk) (hZ : Z = zB) : ∀ w : World, (Instr.build 54 #[]).run Tryz.prog w = .ok (.agg (bkC Z).toArray) w := by
  intro w; subst hZ; kernel_rfl
theorem wpList_buildZ {ops : Array Oper} {rest : List Oper} {op : Oper} {a : Act} {w : World} {Q : Exit → Act → World → Prop} (hgd : op.guard = none) (ho : op.op = .build 54 #[]) {Z : Bk}
    (hrun : ∀ w : World, (Instr.build 54 #[]).run Tryz.prog w = .ok (.agg (bkC Z).toArray) w)
    (h : wpList Tryz.prog ops Q rest (a.put op.dst (.agg (bkC Z).toArray)) w) : wpList Tryz.prog ops Q (op :: rest) a w := by
  refine wpList_plain hgd fun K' hK' => ?_
  unfold Oper.wp
  simp only [execOp, ho, List.map_toArray, List.map_nil, Sem.run_bind, hrun, Result.andThen_ok]
  exact hK' _ _ h
theorem allocZ_run (Z : Bk) (hZ : Z = zB) : ∀ w : World, (Instr.alloc 54 true (.tuple #[])).run Tryz.prog w = .ok (.pointer (some ⟨w.heap.size, 0, none⟩)) (w.alloc (.cells (bkC Z).toArray 54)) := by
  intro w; subst hZ; kernel_rfl
theorem step_alloc {P : Program} {ops : Array Oper} {o : Oper} {a : Act} {w : World} {K : Act → World → Prop} {Q : Exit → Act → World → Prop} {E : Prop} (hg : o.guard = none) (t : TypeId) (hop : o.op = .alloc t) (cs : Array Value)
    (hrun : ∀ w : World, (Instr.alloc t true (.tuple #[])).run P w = .ok (.pointer (some ⟨w.heap.size, 0, none⟩)) (w.alloc (.cells cs t)))
    (hK : K (a.put o.dst (.pointer (some ⟨w.heap.size, 0, none⟩))) (w.alloc (.cells cs t))) : if Region.wanted o (yielded ops a.tmps) = true then Oper.wp P o a w K Q else E := by
  have hw : Region.wanted o (yielded ops a.tmps) = true := by simp [Region.wanted, hg]
  rw [if_pos hw]
  unfold Oper.wp
  simp only [execOp, hop, Sem.run_bind, hrun, Result.andThen_ok]
  exact hK
def CaS.readS (n : CaN) (a : CaS) (k : Int) (s : Nat) : CaS × Bk × Int :=
  if fate a.dP = 1 then ({ a with dP := a.dP.tail }, zB, 19)
  else if crcC (curB a.dF a.dO (n.slot0 + s)) = (a.sums k).getD 0 then ({ a with dP := a.dP.tail }, curB a.dF a.dO (n.slot0 + s), 0) else ({ a with dP := a.dP.tail }, zB, 13)
def CaS.readB (n : CaN) (a : CaS) (k : Int) : CaS × Bk × Int :=
  if getC a.ps k = 14 then ({ a with bP := a.bP.tail }, (if fate a.bP = 1 then zB else curB a.bF a.bO k.toNat), (if fate a.bP = 1 then 19 else 0))
  else if getC a.ps k ≠ 0 then (a, zB, getC a.ps k) else a.readS n k (getV a.ps k).1.toNat
section
variable {own own2 : Nat → Nat} {w w' W2 : World} {c m : Nat} {n : CaN} {p : CaP} {a : CaS} {N : Nat}
theorem ca_row (h : CaAt own2 W2 c n p a) (d : Did own own2 w W2) (hm0 : own2 m = 0) (hm : w.heap.size ≤ m) (h1 : m ≠ 0) (h2 : m ≠ 1) (cs : List Value) : CaAt own2 (W2.setCells m 0 cs) c n p a ∧ Did own own2 w (W2.setCells m 0 cs) :=
  ⟨h.nobody (upd_row W2 m 0 cs) (fun j e => by subst e; exact ⟨hm0, h1, h2⟩), ⟨d.upd.new (upd_row W2 m 0 cs) (fun i hi e => by omega), d.old, d.new, fun j hj => d.far j (by have := (upd_row W2 m 0 cs).size; omega)⟩⟩
theorem there64 {W : World} {g : Nat} {cs : List Value} {t : TypeId} (hg : W.heap[g]? = some (.cells cs.toArray t (0, 0))) (hc : cs.length = 64) : W.there g 0 64 := fun j hj => by
  rw [cell_of_block hg, frozen_of_block hg]
  exact ⟨by rw [Nat.zero_add, Array.getElem?_eq_getElem (by simp [hc]; omega)]; rfl, rfl⟩
set_option maxRecDepth 100000 in
set_option maxHeartbeats 2000000 in
theorem ca_read (h : CaAt own w c n p a) (k : Int) :
    Calls Tryz.prog 45 #[ptr c, .int .i64 k] w (CaRead own w c n p (a.readB n k).1 (a.readB n k).2.1 (a.readB n k).2.2) := by
  obtain ⟨R, hR⟩ : ∃ R, R = a.readB n k := ⟨_, rfl⟩
  rw [← hR]
  unfold CaS.readB at hR
  obtain ⟨w1, hw1⟩ : ∃ w1, w1 = w.alloc (.cells (bkC zB).toArray 54) := ⟨_, rfl⟩
  have hu1 : Upd (fun _ => False) w w1 := by rw [hw1]; exact (Upd.refl _ w).alloc _
  have hg1 : w1.heap[w.heap.size]? = some (.cells (bkC zB).toArray 54 (0, 0)) := by rw [hw1]; exact heap_alloc_last w _ rfl
  obtain ⟨m, hm⟩ : ∃ m, m = w.heap.size := ⟨_, rfl⟩
  have hm0 : own m = 0 := h.far _ (by omega)
  rw [← hm] at hg1
  have h1 := h.new hu1
  have d1 := h.didNew hu1
  have hcl := h.clt
  have HL := Lib.hid (And.intro h.nib.lt (And.intro h.tur.lt hm))
  have HG := Lib.hid (ca_get h1 k)
  obtain ⟨-, -, -, -, d4, -, -, -, -⟩ := h.cells
  have H := Lib.hid (And.intro d1 (And.intro hg1 (And.intro hm0 hR)))
  have HW1 := Lib.hid hw1
  clear h1 h hu1 hg1 hm0 d1 hm hw1 hR
  obtain ⟨Z, hZ⟩ : ∃ Z, Z = zB := ⟨_, rfl⟩
  have hZl : Z.length = 64 := by rw [hZ]; rfl
  have HZ := Lib.hid (And.intro hZ (buildZ_run Z hZ))
  clear hZ
  go_enter Tryz.func45, Tryz.ntmps45
  go_wp2_with fail
  rw [zlit, ← HW1.out, ← HL.out.2.2]
  refine HG.out.mono ?_
  rintro e w2 ⟨rfl, own2, h2, hd2⟩
  have g2 := (hd2.upd.block m (lt_of_block H.out.2.1) (fun h => h.1 H.out.2.2.1)).trans H.out.2.1
  have hmo : own2 m = 0 := (hd2.old m (lt_of_block H.out.2.1)).trans H.out.2.2.1
  have d2 := H.out.1.trans hd2
  have hR := H.out.2.2.2
  have hm1 : m ≠ 0 := fun e => by have := HL.out.1; have := HL.out.2.2; omega
  have hm2 : m ≠ 1 := fun e => by have := HL.out.2.1; have := HL.out.2.2; omega
  have HM := Lib.hid (And.intro hm1 (And.intro hm2 (show w.heap.size ≤ m by have := HL.out.2.2; omega)))
  clear HG d4 hd2 H hm1 hm2
  generalize hgv : getV a.ps k = pv at *
  obtain ⟨s, db⟩ := pv
  simp only at hR
  obtain ⟨w3, hw3⟩ : ∃ w3, w3 = w2.alloc (.cells #[.int .i64 s, .bool db] 95) := ⟨_, rfl⟩
  have hu3 : Upd (fun _ => False) w2 w3 := by rw [hw3]; exact (Upd.refl _ w2).alloc _
  have h3 := h2.new hu3
  have d3 := d2.trans (h2.didNew hu3)
  have g3 := hu3.blockv g2
  have gp : w3.heap[w2.heap.size]? = some (.cells #[.int .i64 s, .bool db] 95 (0, 0)) := by rw [hw3]; exact heap_alloc_last w2 _ rfl
  have HW3 := Lib.hid hw3
  obtain ⟨pb, hpb⟩ : ∃ pb, pb = w2.heap.size := ⟨_, rfl⟩
  have hpo : own2 pb = 0 := h2.far _ (by omega)
  rw [← hpb] at gp
  have hpm : pb ≠ m := by have := lt_of_block g2; omega
  have HPB := Lib.hid hpb
  have hcl2 := h2.clt
  obtain ⟨b0, b1, -, -, -, -, -, -, -⟩ := h2.cells
  clear h2 d2 g2 hu3 hw3 hpb hcl
  generalize hgc : getC a.ps k = cd at *
  by_cases hc14 : cd = 14
  · subst hc14
    rw [if_pos rfl] at hR
    obtain ⟨kn, rfl, hkn⟩ : ∃ kn : Nat, k = (kn : Int) ∧ kn < a.bF.length := by
      have h1 := h3.pl
      have h2 := h3.gl
      unfold getC at hgc
      split at hgc
      · cases hgc
      · exact ⟨k.toNat, by omega, by omega⟩
    have HRd := Lib.hid (ca_back_read h3 kn hkn)
    have HX := Lib.hid (And.intro d3 (And.intro g3 (And.intro hmo hR)))
    clear h3 d3 g3 hmo hR gp hgc hgv hpo hkn hpm
    go_wp2_with fail
    rw [← HW3.out]
    refine HRd.out.mono ?_
    rintro e w4 ⟨y, cd, hy, hcd, hyl, rfl, own4, h4, hd4⟩
    obtain ⟨d3, g3, hmo, hR⟩ := HX.out
    have g4 := (hd4.upd.block m (lt_of_block g3) (fun h => h.1 hmo)).trans g3
    have hth := there64 g4 (by rw [bkC_len]; rfl)
    have hmo4 : own4 m = 0 := (hd4.old m (lt_of_block g3)).trans hmo
    obtain ⟨h5, d5⟩ := ca_row h4 (d3.trans hd4) hmo4 HM.out.2.2 HM.out.1 HM.out.2.1 (bkC y)
    have H5 := Lib.hid (And.intro h5 (And.intro d5 (And.intro hR (And.intro hy (And.intro hcd hyl)))))
    clear h4 hd4 d3 g3 hmo hR g4 hmo4 h5 d5 HRd HX hy hcd
    go_wp2_with (first
      | (refine wpList_store_mid rfl _ _ _ rfl _ _ (bkC y).toArray rfl rfl (by rw [bkC_size _ hyl]; exact hth) (by rw [bkC_size _ hyl]; exact sizeBk') (all_oneCell_toArray (bkC_one _)) ?_)
      | fail)
    obtain ⟨h5, d5, hR, hy, hcd, -⟩ := H5.out
    refine bodyPost_ret (results_mid2 rfl _ _ m 0 (bkC y) _ rfl (World.rangeAt_setCells_same _ _ _ _ (by rw [bkC_len, hyl]; exact hth)) Tryz.underlying54 rfl (sizeBk y hyl)) rfl ?_
    rw [hR]
    exact ⟨y, cd, by rw [hy]; rfl, hcd, hyl, rfl, own4, h5, d5⟩
  by_cases hc : cd = 0
  rotate_left
  · rw [if_neg hc14, if_pos hc] at hR
    have q0 : (cd == 14) = false := by simpa using hc14
    have q1 : (cd == 0) = false := by simpa using hc
    have hth := there64 g3 (by rw [bkC_len]; rfl)
    obtain ⟨h5, d5⟩ := ca_row h3 d3 hmo HM.out.2.2 HM.out.1 HM.out.2.1 (bkC Z)
    have H5 := Lib.hid (And.intro h5 (And.intro d5 hR))
    clear h3 d3 g3 hmo hR gp hgc hgv hpo h5 d5
    rw [HW3.out] at hth
    go_wp2_with (first
      | (refine wpList_buildZ rfl rfl HZ.out.2 ?_)
      | (refine wpList_store_mid rfl _ _ _ rfl _ _ (bkC Z).toArray rfl rfl (by rw [bkC_size _ hZl]; exact hth) (by rw [bkC_size _ hZl]; exact sizeBk') (all_oneCell_toArray (bkC_one _)) ?_)
      | fail)
    obtain ⟨h5, d5, hR⟩ := H5.out
    rw [← HW3.out] at hth ⊢
    refine bodyPost_ret (results_mid2 rfl _ _ m 0 (bkC Z) _ rfl (World.rangeAt_setCells_same _ _ _ _ (by rw [bkC_len, hZl]; exact hth)) Tryz.underlying54 rfl (sizeBk Z hZl)) rfl ?_
    rw [hR]
    exact ⟨Z, cd, HZ.out.1, rfl, hZl, rfl, own2, h5, d5⟩
  subst hc
  rw [if_neg (by decide), if_neg (by decide)] at hR
  unfold CaS.readS at hR
  obtain ⟨vi, mi, hix, -, -⟩ := h3.ix
  obtain ⟨kn, hkn, hkk, hs0, hs1, hgv2⟩ := getC_zero hix.good hgc
  rw [hgv] at hgv2
  have hs0' : 0 ≤ s := by have e := congrArg Prod.fst hgv2; simp only at e; rw [e]; exact hs0
  have hs1' : s < (n.sl : Int) := by have e := congrArg Prod.fst hgv2; simp only at e; rw [e]; exact hs1
  clear hix hs0 hs1 hgv2 hgv hgc hc14
  obtain ⟨sn, rfl⟩ : ∃ sn : Nat, s = (sn : Int) := ⟨s.toNat, by omega⟩
  rw [Int.toNat_natCast] at hR
  have hk4 : k < 4096 := by have h1 := h3.pl; have h2 := h3.ok.b2; rw [hkk]; omega
  have hk0 : 0 ≤ k := by rw [hkk]; omega
  clear hkn hkk
  have hfl := h3.fl
  have hz := h3.ok.z
  have hsz : n.slot0 + sn < a.dF.length := by unfold CaN.size at hfl; unfold CaN.slot0; omega
  have hsz2 : n.slot0 + sn < 8192 := by omega
  obtain ⟨sc, hsc⟩ : ∃ sc, sc = n.slot0 + sn := ⟨_, rfl⟩
  have k1 : IntKind.i64.wrap ((n.slot0 : Int) + (sn : Int)) = (sc : Int) := by rw [hsc, Int.natCast_add]; exact IntWalk.i64_in _ (by omega)
  have K2 : Hid ((n.slot0 : Int) + (sn : Int) = (sc : Int)) := by show _ = _; rw [hsc, Int.natCast_add]
  rw [← hsc] at hR hsz
  obtain ⟨e0, -, -, -, -, -, -, -, -⟩ := h3.cells
  obtain ⟨-, -, -, e5⟩ := h3.lay
  have e5 : w3.cell? ⟨c, 12, none⟩ = some (.int .i64 (n.slot0 : Int)) := by rw [e5]; congr 2
  have ep := cell_of_block gp 0
  simp at ep
  have hpl := lt_of_block gp
  have hml := lt_of_block g3
  have hud := ((Upd.refl (fun _ => False) w3).drew)
  obtain ⟨wd, hwd⟩ : ∃ wd, wd = w3.drew := ⟨_, rfl⟩
  rw [← hwd] at hud
  have hd := h3.new hud
  have dd := d3.trans (h3.didNew hud)
  have gd := hud.blockv g3
  have epd := hud.cellv ep (fun h => h)
  have e0d := hud.cellv e0 (fun h => h)
  have e5d := hud.cellv e5 (fun h => h)
  have hcd := hd.clt
  have hmn : own2 m = 0 ∧ own2 pb = 0 := ⟨hmo, hpo⟩
  have HD := Lib.hid (And.intro hd (And.intro dd (And.intro gd (And.intro hmn (And.intro hR (And.intro hsz (And.intro hpm (And.intro hk0 (And.intro hk4 hwd)))))))))
  have hpd : pb < wd.heap.size := by have := hud.size; omega
  have hmd : m < wd.heap.size := by have := hud.size; omega
  clear h3 d3 g3 hmo hpo gp hR hfl hz hsz hsz2 hsc hpl hml hud hd dd gd hmn hpm hk0 hk4 e0 e5 ep hwd
  go_upto_region 8 with fail
  rw [← HW3.out, ← HPB.out]
  refine wp_region_held_drew (S := fun W => W.cell? ⟨c, 14, none⟩ = some (ptr p.ssd) ∧ W.cell? ⟨c, 12, none⟩ = some (.int .i64 (n.slot0 : Int)) ∧ W.cell? ⟨pb, 0, none⟩ = some (.int .i64 (sn : Int))) (by kernel_rfl) (by rw [← HD.out.2.2.2.2.2.2.2.2.2]; exact ⟨e0d, e5d, epd⟩) (fun hHeld => ?_)
  rw [← HD.out.2.2.2.2.2.2.2.2.2] at hHeld ⊢
  refine Wl.i [0, 1, 2, 3, 4, 5, 6, 7, 8, 9, 10, 11] ?_; iterate 12 refine Wl.t hHeld ?_
  refine Wl.o ?_
  refine wpAnyH_ready (rs := [12, 16]) (by kernel_rfl) (by simp) ?_
  refine AllReadyH.cons rfl (fun K hK => ?_) (AllReadyH.cons rfl (fun K hK => ?_) AllReadyH.nil)
  · go_simp
    obtain ⟨hd, dd, gd, hmn, hR, hsz, hpm, hk0, hk4, -⟩ := HD.out
    refine (ca_ssd_read hd sc hsz).mono ?_
    rintro e w4 ⟨y, cd, hy, hcd, hyl, rfl, own4, h4, hd4⟩
    have HY := Lib.hid (And.intro hy hcd)
    clear hy hcd
    have g4 := (hd4.upd.block m hmd (fun h => h.1 hmn.1)).trans gd
    have d4 := dd.trans hd4
    have hmo4 : own4 m = 0 := (hd4.old m hmd).trans hmn.1
    obtain ⟨i0, -, -, -, -, -, -, -, -⟩ := h4.cells
    obtain ⟨-, -, -, i5⟩ := h4.lay
    have i5 : w4.cell? ⟨c, 12, none⟩ = some (.int .i64 (n.slot0 : Int)) := by rw [i5]; congr 2
    have ip := hd4.upd.cellv epd (fun h => h.1 hmn.2)
    obtain ⟨w5, hw5⟩ : ∃ w5, w5 = w4.alloc (.cells (bkC Z).toArray 54) := ⟨_, rfl⟩
    have hu5 : Upd (fun _ => False) w4 w5 := by rw [hw5]; exact (Upd.refl _ w4).alloc _
    obtain ⟨g, hg⟩ : ∃ g, g = w4.heap.size := ⟨_, rfl⟩
    have gg5 : w5.heap[g]? = some (.cells (bkC Z).toArray 54 (0, 0)) := by rw [hw5, hg]; exact heap_alloc_last w4 _ rfl
    have h5 := h4.new hu5
    have d5 := d4.trans (h4.didNew hu5)
    have g5 := hu5.blockv g4
    have hgo : own4 g = 0 := h4.far g (by omega)
    have hgm : w.heap.size ≤ g := by have := d4.upd.size; omega
    have hgp : g ≠ pb := by have := hd4.upd.size; omega
    have hgm2 : g ≠ m := by have := hd4.upd.size; omega
    have hgc : g ≠ c := by have := h4.clt; omega
    have hgn : g ≠ 0 ∧ g ≠ 1 := by have h1 := h4.nib.lt; have h2 := h4.tur.lt; constructor <;> omega
    have j0 := hu5.cellv i0 (fun h => h)
    have j5 := hu5.cellv i5 (fun h => h)
    have jp := hu5.cellv ip (fun h => h)
    have HW := Lib.hid (And.intro hw5 hg)
    clear hw5 hg hu5 h4 d4 hd4 g4 hmn gd dd hd
    refine hK.out _ _ (⟨i0, i5, ip⟩) (fun hH1 => ?_)
    clear hK K
    refine Wl.i [13, 14, 15] ?_; iterate 3 refine Wl.t hH1 ?_
    refine Wl.o ?_
    refine Wl.r 16 (fun K hK => ?_)
    refine step_alloc rfl _ rfl _ (allocZ_run Z HZ.out.1) ?_
    rw [← HW.out.1, ← HW.out.2]
    simp only [Act.put, List.setIfInBounds_toArray]
    refine hK.out _ _ (⟨j0, j5, jp⟩) (fun hH2 => ?_)
    clear hK K
    refine Wl.r 17 (fun K hK => ?_)
    rw [if_pos (by rfl)]
    have hthg := there64 gg5 (by rw [bkC_len]; exact hZl)
    obtain ⟨h6, d6⟩ := ca_row h5 d5 hgo hgm hgn.1 hgn.2 (bkC y)
    have r6 : (w5.setCells g 0 (bkC y)).rangeAt g 0 (bkC y) := World.rangeAt_setCells_same _ _ _ _ (by rw [bkC_len, hyl]; exact hthg)
    have hus := upd_row w5 g 0 (bkC y)
    have g6 := (hus.block m (lt_of_block g5) (fun e => hgm2 e.symm)).trans g5
    have l0 := hus.cellv j0 (fun e => hgc e.symm)
    have l5 := hus.cellv j5 (fun e => hgc e.symm)
    have lp := hus.cellv jp (fun e => hgp e.symm)
    refine wp_store_mid _ _ _ rfl _ _ (bkC y).toArray rfl rfl (by rw [bkC_size _ hyl]; exact hthg) (by rw [bkC_size _ hyl]; exact sizeBk') (all_oneCell_toArray (bkC_one _)) ?_
    simp only [Act.put]
    refine hK.out _ _ (⟨l0, l5, lp⟩) (fun hH3 => ?_)
    clear hK K
    refine Wl.r 18 (fun K hK => ?_)
    go_simp
    refine hK.out _ _ (hH3) (fun _ => ?_)
    clear hK K
    refine Wl.d ?_
    obtain ⟨w6, hw6⟩ : ∃ w6, w6 = w5.setCells g 0 (bkC y) := ⟨_, rfl⟩
    rw [← hw6] at h6 d6 r6 g6 ⊢
    have hgo6 : own4 g = 0 := hgo
    have H6 := Lib.hid (And.intro h6 (And.intro d6 (And.intro r6 (And.intro g6 (And.intro hmo4 (And.intro hR (And.intro HY.out.1 (And.intro HY.out.2 (And.intro hgo6 (And.intro hgm (And.intro hgm2 (And.intro hk0 hk4))))))))))))
    clear h6 d6 r6 g6 hmo4 hR HY hgo6 hgo hgm hgm2 hgp hgn hk0 hk4 h5 d5 gg5 g5 j0 j5 jp i0 i5 ip l0 l5 lp hus hthg hw6 hHeld hH1 hH2 hH3 HW hgc e0d e5d epd
    by_cases hc : cd = 0
    rotate_left
    · have q0 : (cd == 0) = false := by simpa using hc
      obtain ⟨h6, d6, -, g6, hmo4, hR, hy, hcd, -⟩ := H6.out
      have hf : fate a.dP = 1 := by
        refine Decidable.byContradiction fun hf => ?_
        rw [if_neg hf] at hcd
        exact hc hcd
      rw [if_pos hf] at hR hcd
      have hth := there64 g6 (by rw [bkC_len]; rfl)
      obtain ⟨h7, d7⟩ := ca_row h6 d6 hmo4 HM.out.2.2 HM.out.1 HM.out.2.1 (bkC Z)
      have H7 := Lib.hid (And.intro h7 (And.intro d7 (And.intro hR hcd)))
      clear h6 d6 g6 hmo4 hR hy hcd h7 d7 hf H6
      go_wp2_with (first
        | (refine wpList_buildZ rfl rfl HZ.out.2 ?_)
        | (refine wpList_store_mid rfl _ _ _ rfl _ _ (bkC Z).toArray rfl rfl (by rw [bkC_size _ hZl]; exact hth) (by rw [bkC_size _ hZl]; exact sizeBk') (all_oneCell_toArray (bkC_one _)) ?_)
        | fail)
      obtain ⟨h7, d7, hR, hcd⟩ := H7.out
      refine bodyPost_ret (results_mid2 rfl _ _ m 0 (bkC Z) _ rfl (World.rangeAt_setCells_same _ _ _ _ (by rw [bkC_len, hZl]; exact hth)) Tryz.underlying54 rfl (sizeBk Z hZl)) rfl ?_
      rw [hR]
      exact ⟨Z, cd, HZ.out.1, hcd, hZl, rfl, own4, h7, d7⟩
    subst hc
    obtain ⟨h6, d6, r6, g6, hmo4, hR, hy, hcd, hgo6, hgm, hgm2, hk0, hk4⟩ := H6.out
    have hf : ¬ fate a.dP = 1 := fun hf => by rw [if_pos hf] at hcd; cases hcd
    rw [if_neg hf] at hR hy
    rw [← hy] at hR
    have hud := ((Upd.refl (fun _ => False) w6).drew)
    obtain ⟨w7, hw7⟩ : ∃ w7, w7 = w6.drew := ⟨_, rfl⟩
    rw [← hw7] at hud
    obtain ⟨w8, hw8⟩ : ∃ w8, w8 = w7.alloc (.cells #[.slice (some ⟨g, 0, none⟩) 64 64] 205) := ⟨_, rfl⟩
    have hu8 : Upd (fun _ => False) w7 w8 := by rw [hw8]; exact (Upd.refl _ w7).alloc _
    have g8 : w8.heap[w7.heap.size]? = some (.cells #[.slice (some ⟨g, 0, none⟩) 64 64] 205 (0, 0)) := by rw [hw8]; exact heap_alloc_last w7 _ rfl
    have h7 := h6.new hud
    have h8 := h7.new hu8
    have r8 := hu8.range (hud.range r6 (fun h => h)) (fun h => h)
    obtain ⟨sm, hsm⟩ : ∃ sm, sm = (a.sums k).getD 0 := ⟨_, rfl⟩
    rw [← hsm] at hR
    have hMM : ∀ X, Upd (fun _ => False) w6 X → X.cell? ⟨c, 22, none⟩ = some (.map (some p.sm)) ∧ (Instr.lookup 116 (.map (some p.sm)) (.int .i64 k) false).run Tryz.prog X = .ok (.int .i64 (sm : Int)) X := by
      intro X hX
      have hCA := h6.new hX
      obtain ⟨-, -, -, -, -, -, -, -, c22⟩ := hCA.cells
      refine ⟨c22, ?_⟩
      rw [hsm]
      exact hCA.sm.1.look1 (by omega) (by omega)
    have m7 := hMM _ hud
    have m8 := hMM _ (hud.trans hu8)
    have HS := Lib.hid (sum_any (cl := 1) y h8.nib (cell_of_block g8 0) r8 hyl (by omega) (by omega))
    have HM9 : Hid (∀ w9, Below w8.heap.size w8 w9 → (CaAt own4 w9 c n p { a with dP := a.dP.tail } ∧ Did own own4 w w9) ∧ w9.rangeAt g 0 (bkC y) ∧ w9.heap[m]? = some (.cells (bkC zB).toArray 54 (0, 0)) ∧ (w9.cell? ⟨c, 22, none⟩ = some (.map (some p.sm)) ∧ (Instr.lookup 116 (.map (some p.sm)) (.int .i64 k) false).run Tryz.prog w9 = .ok (.int .i64 (sm : Int)) w9)) := by
      intro w9 hb9
      have hu9 := (hud.trans hu8).trans (Upd.of_below (S := fun _ => False) hb9)
      exact ⟨⟨h6.new hu9, d6.trans (h6.didNew hu9)⟩, hu9.range r6 (fun h => h), hu9.blockv g6, hMM _ hu9⟩
    have HX := Lib.hid (And.intro hR (And.intro hmo4 (And.intro hw7 (And.intro hw8 (And.intro hsm hgm2)))))
    clear h6 d6 r6 g6 hmo4 hR hy hcd hgo6 hgm hgm2 hf hud hu8 g8 h7 h8 r8 hMM hw7 hw8 hsm H6 hk0 hk4
    go_upto_region 11 with fail
    refine wp_region_held_drew (S := fun W => W.cell? ⟨c, 22, none⟩ = some (.map (some p.sm)) ∧ (Instr.lookup 116 (.map (some p.sm)) (.int .i64 k) false).run Tryz.prog W = .ok (.int .i64 (sm : Int)) W) (by kernel_rfl) (by rw [← HX.out.2.2.1]; exact m7) (fun _ => ?_)
    rw [← HX.out.2.2.1]
    have hHeld := m7
    refine Wl.i [0, 3, 4, 5, 6, 7, 8] ?_; iterate 7 refine Wl.t hHeld ?_
    refine Wl.o ?_
    refine Wl.r 1 (fun K hK => ?_)
    go_simp
    rw [← HX.out.2.2.2.1]
    refine hK.out _ _ (m8) (fun hH1 => ?_)
    clear hK K
    refine Wl.r 2 (fun K hK => ?_)
    go_simp
    refine HS.out.mono ?_
    rintro e w9 ⟨rfl, hb9⟩
    obtain ⟨hcd9, r9, g9, m9⟩ := HM9.out w9 hb9
    have H9 := Lib.hid (And.intro hcd9 (And.intro r9 g9))
    refine hK.out _ _ (m9) (fun hH2 => ?_)
    clear hK K
    refine Wl.i [9] (Wl.t hH2 (Wl.o ?_))
    refine Wl.d ?_
    clear hHeld hH1 hH2 m7 m8 m9 HS HM9 hb9 hcd9 g9
    obtain ⟨hR, hmo4, -, -, -, -⟩ := HX.out
    have hth := there64 H9.out.2.2 (by rw [bkC_len]; rfl)
    by_cases hq : crcC y = sm
    rotate_left
    · rw [if_neg hq] at hR
      have q1 : ((crcC y : Int) == (sm : Int)) = false := by simpa using fun e => hq (by omega)
      have q2 : ((crcC y : Int) != (sm : Int)) = true := by simp [bne, q1]
      obtain ⟨h7, d7⟩ := ca_row H9.out.1.1 H9.out.1.2 hmo4 HM.out.2.2 HM.out.1 HM.out.2.1 (bkC Z)
      have H7 := Lib.hid (And.intro h7 (And.intro d7 hR))
      clear h7 d7 hR hmo4 r9 hq
      go_wp2_with (first
        | (refine wpList_buildZ rfl rfl HZ.out.2 ?_)
        | (refine wpList_store_mid rfl _ _ _ rfl _ _ (bkC Z).toArray rfl rfl (by rw [bkC_size _ hZl]; exact hth) (by rw [bkC_size _ hZl]; exact sizeBk') (all_oneCell_toArray (bkC_one _)) ?_)
        | fail)
      obtain ⟨h7, d7, hR⟩ := H7.out
      refine bodyPost_ret (results_mid2 rfl _ _ m 0 (bkC Z) _ rfl (World.rangeAt_setCells_same _ _ _ _ (by rw [bkC_len, hZl]; exact hth)) Tryz.underlying54 rfl (sizeBk Z hZl)) rfl ?_
      rw [hR]
      exact ⟨Z, 13, HZ.out.1, rfl, hZl, rfl, own4, h7, d7⟩
    rw [if_pos hq] at hR
    have q1 : ((crcC y : Int) == (sm : Int)) = true := by rw [hq]; simp
    have q2 : ((crcC y : Int) != (sm : Int)) = false := by simp [bne, q1]
    obtain ⟨h7, d7⟩ := ca_row H9.out.1.1 H9.out.1.2 hmo4 HM.out.2.2 HM.out.1 HM.out.2.1 (bkC y)
    have H7 := Lib.hid (And.intro h7 (And.intro d7 hR))
    clear h7 d7 hR hmo4 hq
    go_wp2_with (first
      | (refine wpList_load_mid rfl _ _ rfl _ _ rfl _ _ r9 Tryz.underlying54 rfl (sizeBk y hyl) ?_)
      | (refine wpList_store_mid rfl _ _ _ rfl _ _ (bkC y).toArray rfl rfl (by rw [bkC_size _ hyl]; exact hth) (by rw [bkC_size _ hyl]; exact sizeBk') (all_oneCell_toArray (bkC_one _)) ?_)
      | fail)
    obtain ⟨h7, d7, hR⟩ := H7.out
    refine bodyPost_ret (results_mid2 rfl _ _ m 0 (bkC y) _ rfl (World.rangeAt_setCells_same _ _ _ _ (by rw [bkC_len, hyl]; exact hth)) Tryz.underlying54 rfl (sizeBk y hyl)) rfl ?_
    rw [hR]
    exact ⟨y, 0, rfl, rfl, hyl, rfl, own4, h7, d7⟩
  · refine step_alloc rfl _ rfl _ (allocZ_run Z HZ.out.1) ?_
    simp only [Act.put, List.setIfInBounds_toArray]
    obtain ⟨hd, dd, gd, hmn, hR, hsz, hpm, hk0, hk4, -⟩ := HD.out
    obtain ⟨w4, hw4⟩ : ∃ w4, w4 = wd.alloc (.cells (bkC Z).toArray 54) := ⟨_, rfl⟩
    have hu4 : Upd (fun _ => False) wd w4 := by rw [hw4]; exact (Upd.refl _ wd).alloc _
    obtain ⟨g, hg⟩ : ∃ g, g = wd.heap.size := ⟨_, rfl⟩
    have gg4 : w4.heap[g]? = some (.cells (bkC Z).toArray 54 (0, 0)) := by rw [hw4, hg]; exact heap_alloc_last wd _ rfl
    rw [← hw4, ← hg]
    have i0 := hu4.cellv e0d (fun h => h)
    have i5 := hu4.cellv e5d (fun h => h)
    have ip := hu4.cellv epd (fun h => h)
    have h4 := hd.new hu4
    have d4 := dd.trans (hd.didNew hu4)
    have g4 := hu4.blockv gd
    have hgo2 : own2 g = 0 := hd.far g (by omega)
    have hgm : w.heap.size ≤ g := by have := dd.upd.size; omega
    have hgp : g ≠ pb := by omega
    have hgm2 : g ≠ m := by omega
    have hgc : g ≠ c := by omega
    have hgn : g ≠ 0 ∧ g ≠ 1 := by have h1 := hd.nib.lt; have h2 := hd.tur.lt; constructor <;> omega
    have HQ := Lib.hid (ca_ssd_read h4 sc hsz)
    have H4 := Lib.hid (And.intro d4 (And.intro g4 (And.intro gg4 (And.intro hgo2 (And.intro hmn hR)))))
    have HW := Lib.hid (And.intro hw4 hg)
    clear hw4 hg hu4 h4 d4 g4 gg4 hgo2 hmn hR dd gd hd
    refine hK.out _ _ (⟨i0, i5, ip⟩) (fun hH1 => ?_)
    clear hK K
    refine Wl.r 12 (fun K hK => ?_)
    go_simp
    refine HQ.out.mono ?_
    rintro e w5 ⟨y, cd, hy, hcd, hyl, rfl, own4, h5, hd5⟩
    have HY := Lib.hid (And.intro hy hcd)
    clear hy hcd HQ
    obtain ⟨d4, g4, gg4, hgo2, hmn, hR⟩ := H4.out
    have g5 := (hd5.upd.block m (lt_of_block g4) (fun h => h.1 hmn.1)).trans g4
    have gg5 := (hd5.upd.block g (lt_of_block gg4) (fun h => h.1 hgo2)).trans gg4
    have d5 := d4.trans hd5
    have hmo4 : own4 m = 0 := (hd5.old m (lt_of_block g4)).trans hmn.1
    have hgo : own4 g = 0 := (hd5.old g (lt_of_block gg4)).trans hgo2
    obtain ⟨j0, -, -, -, -, -, -, -, -⟩ := h5.cells
    obtain ⟨-, -, -, j5⟩ := h5.lay
    have j5 : w5.cell? ⟨c, 12, none⟩ = some (.int .i64 (n.slot0 : Int)) := by rw [j5]; congr 2
    have jp := hd5.upd.cellv ip (fun h => h.1 hmn.2)
    clear d4 g4 gg4 hgo2 hmn hd5 H4
    refine hK.out _ _ (⟨j0, j5, jp⟩) (fun hH2 => ?_)
    clear hK K
    refine Wl.i [13, 14, 15] ?_; iterate 3 refine Wl.t hH2 ?_
    refine Wl.o ?_
    refine Wl.r 17 (fun K hK => ?_)
    rw [if_pos (by rfl)]
    have hthg := there64 gg5 (by rw [bkC_len]; exact hZl)
    obtain ⟨h6, d6⟩ := ca_row h5 d5 hgo hgm hgn.1 hgn.2 (bkC y)
    have r6 : (w5.setCells g 0 (bkC y)).rangeAt g 0 (bkC y) := World.rangeAt_setCells_same _ _ _ _ (by rw [bkC_len, hyl]; exact hthg)
    have hus := upd_row w5 g 0 (bkC y)
    have g6 := (hus.block m (lt_of_block g5) (fun e => hgm2 e.symm)).trans g5
    have l0 := hus.cellv j0 (fun e => hgc e.symm)
    have l5 := hus.cellv j5 (fun e => hgc e.symm)
    have lp := hus.cellv jp (fun e => hgp e.symm)
    refine wp_store_mid _ _ _ rfl _ _ (bkC y).toArray rfl rfl (by rw [bkC_size _ hyl]; exact hthg) (by rw [bkC_size _ hyl]; exact sizeBk') (all_oneCell_toArray (bkC_one _)) ?_
    simp only [Act.put, List.setIfInBounds_toArray]
    refine hK.out _ _ (⟨l0, l5, lp⟩) (fun hH3 => ?_)
    clear hK K
    refine Wl.r 18 (fun K hK => ?_)
    go_simp
    refine hK.out _ _ (hH3) (fun _ => ?_)
    clear hK K
    refine Wl.d ?_
    obtain ⟨w6, hw6⟩ : ∃ w6, w6 = w5.setCells g 0 (bkC y) := ⟨_, rfl⟩
    rw [← hw6] at h6 d6 r6 g6 ⊢
    have hgo6 : own4 g = 0 := hgo
    have H6 := Lib.hid (And.intro h6 (And.intro d6 (And.intro r6 (And.intro g6 (And.intro hmo4 (And.intro hR (And.intro HY.out.1 (And.intro HY.out.2 (And.intro hgo6 (And.intro hgm (And.intro hgm2 (And.intro hk0 hk4))))))))))))
    clear h6 d6 r6 g6 hmo4 hR HY hgo6 hgo hgm hgm2 hgp hgn hk0 hk4 h5 d5 gg5 g5 j0 j5 jp i0 i5 ip l0 l5 lp hus hthg hw6 hHeld hH1 hH2 hH3 HW hgc e0d e5d epd
    by_cases hc : cd = 0
    rotate_left
    · have q0 : (cd == 0) = false := by simpa using hc
      obtain ⟨h6, d6, -, g6, hmo4, hR, hy, hcd, -⟩ := H6.out
      have hf : fate a.dP = 1 := by
        refine Decidable.byContradiction fun hf => ?_
        rw [if_neg hf] at hcd
        exact hc hcd
      rw [if_pos hf] at hR hcd
      have hth := there64 g6 (by rw [bkC_len]; rfl)
      obtain ⟨h7, d7⟩ := ca_row h6 d6 hmo4 HM.out.2.2 HM.out.1 HM.out.2.1 (bkC Z)
      have H7 := Lib.hid (And.intro h7 (And.intro d7 (And.intro hR hcd)))
      clear h6 d6 g6 hmo4 hR hy hcd h7 d7 hf H6
      go_wp2_with (first
        | (refine wpList_buildZ rfl rfl HZ.out.2 ?_)
        | (refine wpList_store_mid rfl _ _ _ rfl _ _ (bkC Z).toArray rfl rfl (by rw [bkC_size _ hZl]; exact hth) (by rw [bkC_size _ hZl]; exact sizeBk') (all_oneCell_toArray (bkC_one _)) ?_)
        | fail)
      obtain ⟨h7, d7, hR, hcd⟩ := H7.out
      refine bodyPost_ret (results_mid2 rfl _ _ m 0 (bkC Z) _ rfl (World.rangeAt_setCells_same _ _ _ _ (by rw [bkC_len, hZl]; exact hth)) Tryz.underlying54 rfl (sizeBk Z hZl)) rfl ?_
      rw [hR]
      exact ⟨Z, cd, HZ.out.1, hcd, hZl, rfl, own4, h7, d7⟩
    subst hc
    obtain ⟨h6, d6, r6, g6, hmo4, hR, hy, hcd, hgo6, hgm, hgm2, hk0, hk4⟩ := H6.out
    have hf : ¬ fate a.dP = 1 := fun hf => by rw [if_pos hf] at hcd; cases hcd
    rw [if_neg hf] at hR hy
    rw [← hy] at hR
    have hud := ((Upd.refl (fun _ => False) w6).drew)
    obtain ⟨w7, hw7⟩ : ∃ w7, w7 = w6.drew := ⟨_, rfl⟩
    rw [← hw7] at hud
    obtain ⟨w8, hw8⟩ : ∃ w8, w8 = w7.alloc (.cells #[.slice (some ⟨g, 0, none⟩) 64 64] 205) := ⟨_, rfl⟩
    have hu8 : Upd (fun _ => False) w7 w8 := by rw [hw8]; exact (Upd.refl _ w7).alloc _
    have g8 : w8.heap[w7.heap.size]? = some (.cells #[.slice (some ⟨g, 0, none⟩) 64 64] 205 (0, 0)) := by rw [hw8]; exact heap_alloc_last w7 _ rfl
    have h7 := h6.new hud
    have h8 := h7.new hu8
    have r8 := hu8.range (hud.range r6 (fun h => h)) (fun h => h)
    obtain ⟨sm, hsm⟩ : ∃ sm, sm = (a.sums k).getD 0 := ⟨_, rfl⟩
    rw [← hsm] at hR
    have hMM : ∀ X, Upd (fun _ => False) w6 X → X.cell? ⟨c, 22, none⟩ = some (.map (some p.sm)) ∧ (Instr.lookup 116 (.map (some p.sm)) (.int .i64 k) false).run Tryz.prog X = .ok (.int .i64 (sm : Int)) X := by
      intro X hX
      have hCA := h6.new hX
      obtain ⟨-, -, -, -, -, -, -, -, c22⟩ := hCA.cells
      refine ⟨c22, ?_⟩
      rw [hsm]
      exact hCA.sm.1.look1 (by omega) (by omega)
    have m7 := hMM _ hud
    have m8 := hMM _ (hud.trans hu8)
    have HS := Lib.hid (sum_any (cl := 1) y h8.nib (cell_of_block g8 0) r8 hyl (by omega) (by omega))
    have HM9 : Hid (∀ w9, Below w8.heap.size w8 w9 → (CaAt own4 w9 c n p { a with dP := a.dP.tail } ∧ Did own own4 w w9) ∧ w9.rangeAt g 0 (bkC y) ∧ w9.heap[m]? = some (.cells (bkC zB).toArray 54 (0, 0)) ∧ (w9.cell? ⟨c, 22, none⟩ = some (.map (some p.sm)) ∧ (Instr.lookup 116 (.map (some p.sm)) (.int .i64 k) false).run Tryz.prog w9 = .ok (.int .i64 (sm : Int)) w9)) := by
      intro w9 hb9
      have hu9 := (hud.trans hu8).trans (Upd.of_below (S := fun _ => False) hb9)
      exact ⟨⟨h6.new hu9, d6.trans (h6.didNew hu9)⟩, hu9.range r6 (fun h => h), hu9.blockv g6, hMM _ hu9⟩
    have HX := Lib.hid (And.intro hR (And.intro hmo4 (And.intro hw7 (And.intro hw8 (And.intro hsm hgm2)))))
    clear h6 d6 r6 g6 hmo4 hR hy hcd hgo6 hgm hgm2 hf hud hu8 g8 h7 h8 r8 hMM hw7 hw8 hsm H6 hk0 hk4
    go_upto_region 11 with fail
    refine wp_region_held_drew (S := fun W => W.cell? ⟨c, 22, none⟩ = some (.map (some p.sm)) ∧ (Instr.lookup 116 (.map (some p.sm)) (.int .i64 k) false).run Tryz.prog W = .ok (.int .i64 (sm : Int)) W) (by kernel_rfl) (by rw [← HX.out.2.2.1]; exact m7) (fun _ => ?_)
    rw [← HX.out.2.2.1]
    have hHeld := m7
    refine Wl.i [0, 3, 4, 5, 6, 7, 8] ?_; iterate 7 refine Wl.t hHeld ?_
    refine Wl.o ?_
    refine Wl.r 1 (fun K hK => ?_)
    go_simp
    rw [← HX.out.2.2.2.1]
    refine hK.out _ _ (m8) (fun hH1 => ?_)
    clear hK K
    refine Wl.r 2 (fun K hK => ?_)
    go_simp
    refine HS.out.mono ?_
    rintro e w9 ⟨rfl, hb9⟩
    obtain ⟨hcd9, r9, g9, m9⟩ := HM9.out w9 hb9
    have H9 := Lib.hid (And.intro hcd9 (And.intro r9 g9))
    refine hK.out _ _ (m9) (fun hH2 => ?_)
    clear hK K
    refine Wl.i [9] (Wl.t hH2 (Wl.o ?_))
    refine Wl.d ?_
    clear hHeld hH1 hH2 m7 m8 m9 HS HM9 hb9 hcd9 g9
    obtain ⟨hR, hmo4, -, -, -, -⟩ := HX.out
    have hth := there64 H9.out.2.2 (by rw [bkC_len]; rfl)
    by_cases hq : crcC y = sm
    rotate_left
    · rw [if_neg hq] at hR
      have q1 : ((crcC y : Int) == (sm : Int)) = false := by simpa using fun e => hq (by omega)
      have q2 : ((crcC y : Int) != (sm : Int)) = true := by simp [bne, q1]
      obtain ⟨h7, d7⟩ := ca_row H9.out.1.1 H9.out.1.2 hmo4 HM.out.2.2 HM.out.1 HM.out.2.1 (bkC Z)
      have H7 := Lib.hid (And.intro h7 (And.intro d7 hR))
      clear h7 d7 hR hmo4 r9 hq
      go_wp2_with (first
        | (refine wpList_buildZ rfl rfl HZ.out.2 ?_)
        | (refine wpList_store_mid rfl _ _ _ rfl _ _ (bkC Z).toArray rfl rfl (by rw [bkC_size _ hZl]; exact hth) (by rw [bkC_size _ hZl]; exact sizeBk') (all_oneCell_toArray (bkC_one _)) ?_)
        | fail)
      obtain ⟨h7, d7, hR⟩ := H7.out
      refine bodyPost_ret (results_mid2 rfl _ _ m 0 (bkC Z) _ rfl (World.rangeAt_setCells_same _ _ _ _ (by rw [bkC_len, hZl]; exact hth)) Tryz.underlying54 rfl (sizeBk Z hZl)) rfl ?_
      rw [hR]
      exact ⟨Z, 13, HZ.out.1, rfl, hZl, rfl, own4, h7, d7⟩
    rw [if_pos hq] at hR
    have q1 : ((crcC y : Int) == (sm : Int)) = true := by rw [hq]; simp
    have q2 : ((crcC y : Int) != (sm : Int)) = false := by simp [bne, q1]
    obtain ⟨h7, d7⟩ := ca_row H9.out.1.1 H9.out.1.2 hmo4 HM.out.2.2 HM.out.1 HM.out.2.1 (bkC y)
    have H7 := Lib.hid (And.intro h7 (And.intro d7 hR))
    clear h7 d7 hR hmo4 hq
    go_wp2_with (first
      | (refine wpList_load_mid rfl _ _ rfl _ _ rfl _ _ r9 Tryz.underlying54 rfl (sizeBk y hyl) ?_)
      | (refine wpList_store_mid rfl _ _ _ rfl _ _ (bkC y).toArray rfl rfl (by rw [bkC_size _ hyl]; exact hth) (by rw [bkC_size _ hyl]; exact sizeBk') (all_oneCell_toArray (bkC_one _)) ?_)
      | fail)
    obtain ⟨h7, d7, hR⟩ := H7.out
    refine bodyPost_ret (results_mid2 rfl _ _ m 0 (bkC y) _ rfl (World.rangeAt_setCells_same _ _ _ _ (by rw [bkC_len, hyl]; exact hth)) Tryz.underlying54 rfl (sizeBk y hyl)) rfl ?_
    rw [hR]
    exact ⟨y, 0, rfl, rfl, hyl, rfl, own4, h7, d7⟩
end
theorem madeMaps (n : Nat) : madeCells #[Value.map none] (n * 1) = Array.replicate n (Value.map none) := by
  apply Array.ext
  · simp [size_madeCells]
  · intro i h1 h2
    have : i % 1 = 0 := Nat.mod_one i
    simp [madeCells, this]
theorem infoSet : (Tryz.prog.info? 331).map (fun i => (i.zero, i.size, i.bytes)) = some (some (.map none), 1, 8) := by kernel_rfl
structure LgTo (W w : World) (g n k : Nat) (M : List (Nat × (Int → Bool))) : Prop where
  sl : Sl w 331 1 (.slice (some ⟨g, 0, none⟩) n n) n (LgC M ++ List.replicate (n - k) (.map none))
  len : M.length = k
  sets : ∀ p ∈ M, SetAt w p.1 4097 p.2 ∧ p.2 = fun _ => false
  nd : (M.map (·.1)).Nodup
  lo : ∀ p ∈ M, W.heap.size + 2 ≤ p.1
set_option maxRecDepth 100000 in
theorem lnew_ok {S : Nat → Prop} (n bl : Nat) (w : World) (hn : ∀ j, w.heap.size ≤ j → S j) (h1 : 1 ≤ n) (h2 : n ≤ 1024) (h3 : 1 ≤ bl) (h4 : bl ≤ 4096) :
    Calls Tryz.prog 134 #[.int .i64 (n : Int), .int .i64 (bl : Int)] w fun e w' => ∃ b, e = .returned (.tuple #[.pointer (some ⟨b, 0, none⟩), .int .i64 0]) ∧
      Lg S w' b bl (List.replicate n (fun _ => false)) ∧ Below w.heap.size w w' ∧ w.heap.size ≤ b := by
  obtain ⟨i0, hi, hz0, hz1, hz2⟩ := info_parts infoSet
  have hmm := @run_makeMap Tryz.prog
  have hmk : ∀ w : World, (Instr.makeSlice 328 (.int .i64 n) (.int .i64 n)).run Tryz.prog w = .ok (.slice (some ⟨w.heap.size, 0, none⟩) n n) (w.alloc (.cells (Array.replicate n (Value.map none)) 331)) := by
    intro w
    have := run_make (P := Tryz.prog) w 328 331 i0 (.map none) Tryz.underlying328 hi hz0 .i64 .i64 n n (by omega) (by omega) (by rw [hz2]; omega) (by omega)
    rw [this]
    simp only [Int.toNat_natCast, hz1, Value.cells]
    rw [madeMaps]
  have q1 : decide ((n : Int) < 1) = false := by simp; omega
  have q2 : decide (1024 < (n : Int)) = false := by simp; omega
  have q3 : decide ((bl : Int) < 1) = false := by simp; omega
  have q4 : decide (4096 < (bl : Int)) = false := by simp; omega
  clear hi hz0 hz1 hz2
  go_enter Tryz.func134, Tryz.ntmps134
  go_wp2
  have ha : ((w.alloc (.cells (Array.replicate n (Value.map none)) 331)).alloc (.cells #[.int .i64 (bl : Int), .slice (some ⟨w.heap.size, 0, none⟩) n n] 330)).heap[w.heap.size]? = some (.cells (Array.replicate n (Value.map none)) 331) := by
    rw [Below.heap_alloc _ _ _ (by simp)]; exact heap_alloc_last w _ rfl
  have hb := heap_alloc_last (w.alloc (.cells (Array.replicate n (Value.map none)) 331)) (.cells #[.int .i64 (bl : Int), .slice (some ⟨w.heap.size, 0, none⟩) n n] 330) (n := w.heap.size + 1) (by simp)
  have hB := ((Below.refl w.heap.size w).alloc (Nat.le_refl _) (.cells (Array.replicate n (Value.map none)) 331)).alloc (by simp) (.cells #[.int .i64 (bl : Int), .slice (some ⟨w.heap.size, 0, none⟩) n n] 330)
  have hsz : ((w.alloc (.cells (Array.replicate n (Value.map none)) 331)).alloc (.cells #[.int .i64 (bl : Int), .slice (some ⟨w.heap.size, 0, none⟩) n n] 330)).heap.size = w.heap.size + 2 := by simp
  have hsl : Sl ((w.alloc (.cells (Array.replicate n (Value.map none)) 331)).alloc (.cells #[.int .i64 (bl : Int), .slice (some ⟨w.heap.size, 0, none⟩) n n] 330)) 331 1 (.slice (some ⟨w.heap.size, 0, none⟩) n n) n (List.replicate n (Value.map none)) :=
    ⟨by simp, .inr ⟨w.heap.size, 0, n, _, rfl, ha, Nat.le_refl _, by unfold maxLen; omega, by simp, fun j u hj => by rw [Nat.zero_add, ← List.toArray_replicate, List.getElem?_toArray]; exact hj⟩⟩
  generalize (w.alloc (.cells (Array.replicate n (Value.map none)) 331)).alloc (.cells #[.int .i64 (bl : Int), .slice (some ⟨w.heap.size, 0, none⟩) n n] 330) = w2 at *
  have HB := Lib.hid (And.intro hb (And.intro hB (And.intro hsz (And.intro hsl hn))))
  clear ha hb hB hsz hsl hn hmk
  go_loopw [32] (fun s32 wr => ∃ k : Nat, k ≤ n ∧ s32 = .int .i64 k ∧ (∃ M, LgTo w wr w.heap.size n k M) ∧ Upd (fun j => j = w.heap.size) w2 wr) (fun s32 _ => n - (intOf s32).toNat)
  case atStart => exact ⟨0, by omega, rfl, ⟨[], by simpa using HB.out.2.2.2.1, rfl, by simp, by simp, by simp⟩, Upd.refl _ _⟩
  case round =>
    obtain ⟨k, hk, rfl, ⟨M, hM⟩, hu⟩ := hrel
    have hstr := (hu.block _ (lt_of_block HB.out.1) (by omega)).trans HB.out.1
    have c1 := cell_of_block hstr 1
    simp at c1
    have hge := hu.size
    have hs2 := HB.out.2.2.1
    by_cases hlt : k < n
    · have b1 : (0 : Int) ≤ (k : Int) := by omega
      have b2 : (k : Int) < (n : Int) := by omega
      obtain ⟨g', off', cap', cur, he, hg, hoc, hcc⟩ := hM.sl.at (by omega)
      cases he
      have HM := Lib.hid (And.intro hM (And.intro hu (And.intro hstr hk)))
      have hc : (wr.alloc (.map #[] 0)).cell? ⟨w.heap.size, k, none⟩ = some (.map none) := by
        rw [cell_of_block ((Below.heap_alloc _ _ _ (lt_of_block hg)).trans hg)]
        have hl : (LgC M).length = k := by simp [LgC, hM.len]
        have := hcc k (.map none) (by rw [List.getElem?_append_right (by omega), hl, Nat.sub_self, List.getElem?_replicate, if_pos (by omega)])
        simpa using this
      have hf : (wr.alloc (.map #[] 0)).frozen? ⟨w.heap.size, k, none⟩ = false := frozen_of_block ((Below.heap_alloc _ _ _ (lt_of_block hg)).trans hg) k
      clear hM hu hstr hg hoc hcc hk
      have HX := Lib.hid (And.intro hs2 hge)
      clear hs2 hge
      go_wp2
      go_roundw
      case rel =>
        obtain ⟨hM, hu, hstr, hk⟩ := HM.out
        obtain ⟨hs2, hge⟩ := HX.out
        have hal : Upd (fun _ => False) wr (wr.alloc (.map #[] 0)) := (Upd.refl _ wr).alloc _
        have hsc : Upd (fun j => j = w.heap.size) (wr.alloc (.map #[] 0)) ((wr.alloc (.map #[] 0)).setCell ⟨w.heap.size, k, none⟩ (.map (some wr.heap.size))) := upd_setCell _ _ _ _
        refine ⟨k + 1, by omega, by go_num, ⟨M ++ [(wr.heap.size, fun _ => false)], ?_, by simp [hM.len], ?_, ?_, ?_⟩, (hu.trans (hal.mono (fun _ _ h => h.elim))).trans hsc⟩
        · have h3 := (hM.sl.keep hal (fun _ _ h => h)).setAt k (by omega) (.map (some wr.heap.size))
          rw [Nat.zero_add] at h3
          have e : (LgC M ++ List.replicate (n - k) (Value.map none)).set k (.map (some wr.heap.size)) = LgC (M ++ [(wr.heap.size, fun _ => false)]) ++ List.replicate (n - (k + 1)) (.map none) := by
            have : n - k = (n - (k + 1)) + 1 := by omega
            rw [this, List.replicate_succ, List.set_append_right _ _ (by simp [hM.len])]
            simp [hM.len, LgC]
          rw [e] at h3
          exact h3
        · intro p hp
          rcases List.mem_append.1 hp with hp | hp
          · refine ⟨((hM.sets p hp).1.keep hal (fun h => h)).keep hsc (fun e => ?_), (hM.sets p hp).2⟩
            have := hM.lo p hp; omega
          · simp at hp; subst hp
            exact ⟨((SetAt.made wr).mono (by omega)).keep hsc (fun e => by have e' : wr.heap.size = w.heap.size := e; omega), rfl⟩
        · rw [List.map_append, List.nodup_append]
          refine ⟨hM.nd, by simp, ?_⟩
          intro x hx y hy e
          simp at hy; subst hy
          obtain ⟨p, hp, rfl⟩ := List.mem_map.1 hx
          have := (hM.sets p hp).1.lt; omega
        · intro p hp
          rcases List.mem_append.1 hp with hp | hp
          · exact hM.lo p hp
          · simp at hp; subst hp; show _ ≤ wr.heap.size; omega
      case measure => simp [intOf]; omega
    · obtain rfl : k = n := by omega
      have HM := Lib.hid (And.intro hM (And.intro hu hstr))
      clear hM hu hstr hk hge hs2
      go_wp2
      go_ret2
      obtain ⟨hM, hu, hstr⟩ := HM.out
      obtain ⟨hb, hB, hsz, -, hn⟩ := HB.out
      have hMM : ∀ p ∈ M, p.1 < wr.heap.size := fun p hp => (hM.sets p hp).1.lt
      refine ⟨w.heap.size + 1, rfl, ⟨.slice (some ⟨w.heap.size, 0, none⟩) k k, M, ⟨hstr, by have := hM.sl; rw [hM.len]; simpa using this, fun p hp => (hM.sets p hp).1, hM.nd, fun p hp => ⟨?_, ?_⟩, by simp [Value.ownBlock], by rw [hM.len]; exact h2, ⟨h3, h4⟩, fun p hp s hs => ?_⟩, ?_, ?_⟩, below_upd hB hu (by omega) (fun j e => by omega), by omega⟩
      · have := hM.lo p hp; omega
      · have := hM.lo p hp; simp [Value.ownBlock]; omega
      · rw [(hM.sets p hp).2] at hs; simp at hs
      · apply List.ext_getElem (by simp [hM.len])
        intro i h1 h2
        simp only [List.getElem_map, List.getElem_replicate]
        exact (hM.sets _ (List.getElem_mem _)).2
      · rintro j (rfl | hj | hj)
        · exact hn _ (by omega)
        · simp [Value.ownBlock] at hj; exact hn _ (by omega)
        · obtain ⟨p, hp, rfl⟩ := List.mem_map.1 hj
          exact hn _ (by have := hM.lo p hp; omega)
abbrev Part := Nat × ((Nat → Prop) → World → Prop)
structure Mk (own0 : Nat → Nat) (w0 : World) (own : Nat → Nat) (w : World) (c : Nat) (cs : List Value) (bs bl : Nat) (us ul : Array Value) (L : List Part) : Prop where
  str : w.heap[c]? = some (.cells cs.toArray 172 (0, 0))
  oc : own c = 1
  cn : w0.heap.size ≤ c
  all : ∀ q ∈ L, Thing q.2 ∧ q.1 ≠ 1 ∧ q.2 (fun j => own j = q.1) w
  far : ∀ j, w.heap.size ≤ j → own j = 0
  nib : Nib w
  tur : Tur w
  on : own 0 = 0
  ot : own 1 = 0
  sb : w.heap[bs]? = some (.cells us 40 (0, 0))
  lb : w.heap[bl]? = some (.cells ul 43 (0, 0))
  bsc : bs ≠ c
  blc : bl ≠ c
  bel : Below w0.heap.size w0 w
  old : ∀ j, j < w0.heap.size → own j = own0 j
  new : ∀ j, w0.heap.size ≤ j → own j < 16
section
variable {own0 own : Nat → Nat} {w0 w w' : World} {c bs bl : Nat} {cs : List Value} {us ul : Array Value} {L : List Part}
theorem Mk.add (h : Mk own0 w0 own w c cs bs bl us ul L) (t : Nat) (ht : t ≠ 1 ∧ t < 16 ∧ ∀ q ∈ L, q.1 ≠ t) {R : (Nat → Prop) → World → Prop} (hR : Thing R) (hb : Below w.heap.size w w') (hr : R (fun j => w.heap.size ≤ j) w') :
    Mk own0 w0 (grow own t w.heap.size w'.heap.size) w' c cs bs bl us ul ((t, R) :: L) := by
  have hu : Upd (fun _ => False) w w' := Upd.of_below hb
  have hcl := lt_of_block h.str
  have ho : ∀ j, own j = t → j < w.heap.size ∨ t = 0 := fun j hj => by
    by_cases hl : j < w.heap.size
    · exact .inl hl
    · exact .inr (by rw [← hj, h.far j (by omega)])
  exact {
    str := hu.blockv h.str
    oc := (grow_old hcl).trans h.oc
    cn := h.cn
    all := fun q hq => by
      rcases List.mem_cons.1 hq with rfl | hq
      · exact ⟨hR, ht.1, hR.out hr (fun j hj hs => grow_new hs hj)⟩
      · obtain ⟨a1, a2, a3⟩ := h.all q hq
        exact ⟨a1, a2, a1.other a3 (ht.2.2 q hq) (hu.mono (fun _ _ h => h.elim))⟩
    far := fun j hj => by
      have := hu.size
      unfold grow
      rw [if_neg (by omega)]
      exact h.far j (by omega)
    nib := h.nib.keep hu (fun h => h)
    tur := h.tur.keep hu (fun h => h)
    on := (grow_old h.nib.lt).trans h.on
    ot := (grow_old h.tur.lt).trans h.ot
    sb := hu.blockv h.sb
    lb := hu.blockv h.lb
    bsc := h.bsc
    blc := h.blc
    bel := below_upd h.bel hu (Nat.le_refl _) (fun _ h => h.elim)
    old := fun j hj => (grow_old (Nat.lt_of_lt_of_le hj h.bel.size)).trans (h.old j hj)
    new := fun j hj => by
      unfold grow
      split
      · exact ht.2.1
      · exact h.new j hj }
theorem Mk.set (h : Mk own0 w0 own w c cs bs bl us ul L) (i : Nat) (v : Value) : Mk own0 w0 own (w.setCell ⟨c, i, none⟩ v) c (cs.set i v) bs bl us ul L := by
  have hu := upd_setCell w c i v
  have hne : ∀ (k j : Nat), k ≠ 1 → own j = k → ¬ j = c := fun k j hk hj e => hk (by rw [← hj, e, h.oc])
  exact {
    str := by have := heap_setCell_same h.str i v; simpa using this
    oc := h.oc
    cn := h.cn
    all := fun q hq => by
      obtain ⟨a1, a2, a3⟩ := h.all q hq
      exact ⟨a1, a2, a1.keep a3 hu (fun j hj => hne _ j a2 hj)⟩
    far := fun j hj => h.far j (by simpa using hj)
    nib := h.nib.keep hu (hne _ _ (by decide) h.on)
    tur := h.tur.keep hu (hne _ _ (by decide) h.ot)
    on := h.on
    ot := h.ot
    sb := (hu.block _ (lt_of_block h.sb) h.bsc).trans h.sb
    lb := (hu.block _ (lt_of_block h.lb) h.blc).trans h.lb
    bsc := h.bsc
    blc := h.blc
    bel := below_upd h.bel hu (Nat.le_refl _) (fun j e => e ▸ h.cn)
    old := h.old
    new := h.new }
theorem Mk.cell (h : Mk own0 w0 own w c cs bs bl us ul L) (i : Nat) : w.cell? ⟨c, i, none⟩ = cs[i]? := by rw [cell_of_block h.str]; simp
theorem Mk.part (h : Mk own0 w0 own w c cs bs bl us ul L) {t : Nat} {R : (Nat → Prop) → World → Prop} (hq : (t, R) ∈ L) : R (fun j => own j = t) w := (h.all _ hq).2.2
end
theorem Mk.start {own0 : Nat → Nat} {w0 w4 : World} {bs bl ssd back : Nat} {us ul : Array Value} {dF bF : List Bk} {dO bO : List (Nat × Bk)} {dP bP : List Int} (cs : List Value) (hU : Upd (fun _ => False) w0 w4)
    (h2 : Dv (fun j => own0 j = 2) w0 ssd dF dO dP) (h3 : Dv (fun j => own0 j = 3) w0 back bF bO bP) (far : ∀ j, w0.heap.size ≤ j → own0 j = 0) (nib : Nib w0) (tur : Tur w0) (on : own0 0 = 0) (ot : own0 1 = 0)
    (sb : w4.heap[bs]? = some (.cells us 40 (0, 0))) (lb : w4.heap[bl]? = some (.cells ul 43 (0, 0))) :
    ∃ own, Mk own0 w0 own ((w4.alloc (.map #[] 0)).alloc (.cells cs.toArray 172)) (w4.heap.size + 1) cs bs bl us ul
      [(9, fun S w => Mp S w w4.heap.size 0 (fun _ => none)), (3, fun S w => Dv S w back bF bO bP), (2, fun S w => Dv S w ssd dF dO dP)] := by
  obtain ⟨w5, hw5⟩ : ∃ w5, w5 = (w4.alloc (.map #[] 0)).alloc (.cells cs.toArray 172) := ⟨_, rfl⟩
  have hu1 : Upd (fun _ => False) w4 (w4.alloc (.map #[] 0)) := (Upd.refl _ w4).alloc _
  have hu2 : Upd (fun _ => False) (w4.alloc (.map #[] 0)) w5 := by rw [hw5]; exact (Upd.refl _ _).alloc _
  have hu := hu1.trans hu2
  have hz : w5.heap.size = w4.heap.size + 2 := by rw [hw5]; simp
  have hs := hU.size
  have hl := lt_of_block sb
  have hl2 := lt_of_block lb
  have hnl := nib.lt
  have htl := tur.lt
  have hout : ∀ (k : Nat), k ≠ 0 → ∀ (R : (Nat → Prop) → World → Prop), Thing R → R (fun j => own0 j = k) w0 → R (fun j => (if j = w4.heap.size then 9 else if j = w4.heap.size + 1 then 1 else own0 j) = k) w5 := fun k hk R hR h => by
    have h1 : R (fun j => own0 j = k ∧ j < w0.heap.size) w0 := hR.out h (fun j hj hs => ⟨hs, hj⟩)
    exact hR.out (hR.new h1 (hU.trans hu)) (fun j hj ⟨a, b⟩ => by rw [if_neg (by omega), if_neg (by omega)]; exact a)
  rw [← hw5]
  refine ⟨fun j => if j = w4.heap.size then 9 else if j = w4.heap.size + 1 then 1 else own0 j, ?_⟩
  exact {
    str := by rw [hw5]; exact heap_alloc_last _ _ (by simp)
    oc := by rw [if_neg (by omega), if_pos rfl]
    cn := by omega
    all := fun q hq => by
      simp only [List.mem_cons, List.not_mem_nil, or_false] at hq
      rcases hq with rfl | rfl | rfl
      · exact ⟨Mp.thing _ _ _, (by show (9 : Nat) ≠ 1; decide), (MapAt.made w4).keep hu2 (fun h => h), by simp⟩
      · exact ⟨Dv.thing _ _ _ _, (by show (3 : Nat) ≠ 1; decide), hout 3 (by decide) _ (Dv.thing _ _ _ _) h3⟩
      · exact ⟨Dv.thing _ _ _ _, (by show (2 : Nat) ≠ 1; decide), hout 2 (by decide) _ (Dv.thing _ _ _ _) h2⟩
    far := fun j hj => by rw [if_neg (by omega), if_neg (by omega)]; exact far j (by omega)
    nib := nib.keep (hU.trans hu) (fun h => h)
    tur := tur.keep (hU.trans hu) (fun h => h)
    on := by rw [if_neg (by omega), if_neg (by omega)]; exact on
    ot := by rw [if_neg (by omega), if_neg (by omega)]; exact ot
    sb := hu.blockv sb
    lb := hu.blockv lb
    bsc := by omega
    blc := by omega
    bel := Upd.below (hU.trans hu)
    old := fun j hj => by rw [if_neg (by omega), if_neg (by omega)]
    new := fun j hj => by
      split
      · decide
      · split
        · decide
        · rw [far j hj]; decide }
theorem inew_ix (n s : Nat) (w : World) (h1 : 1 ≤ n) (h2 : n ≤ 4096) (h3 : 1 ≤ s) (h4 : s ≤ 1024) :
    Calls Tryz.prog 132 #[.int .i64 n, .int .i64 s] w fun e w' => ∃ b, e = .returned (.tuple #[ptr b, .int .i64 0]) ∧ Ix (fun j => w.heap.size ≤ j) w' b 0 (List.replicate n (-1, false)) s ∧ Below w.heap.size w w' :=
  (inew_ok n s w h1 h2 h3 h4).mono fun _ _ ⟨b, v, mb, he, hi, hb, hm, hf, hw⟩ => ⟨b, he, ⟨v, mb, hi, hb, fun j hj => by rcases hj with hj | hj; exact hf j hj; exact hj ▸ hm⟩, hw⟩
theorem snew_ss (n : Nat) (w : World) (h1 : 1 ≤ n) (h2 : n ≤ 1024) :
    Calls Tryz.prog 133 #[.int .i64 n] w fun e w' => ∃ b, e = .returned (.tuple #[ptr b, .int .i64 0]) ∧ Ss (fun j => w.heap.size ≤ j) w' b (List.replicate n 0) ∧ Below w.heap.size w w' :=
  (snew_ok n w h1 h2).mono fun _ _ ⟨he, hs, hw, _⟩ => ⟨_, he, ⟨_, hs, by show _ ≤ _; omega, fun j hj => by simp [Value.ownBlock] at hj; show _ ≤ _; omega⟩, hw⟩
end Go.Proofs.YtfhfbpmlnjdfoaaGreatDoor
