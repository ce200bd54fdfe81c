/- A cache: Read. The small superblock. A block of one number; small superblocks. -/
import Derived.Test.YtnadilfobmgebaaGreatDoorH25
import Derived.Test.YtnadilfobmgebaaGreatDoorH07
import Derived.Test.YtnadilfobmgebaaGreatDoorH04
namespace Go.Proofs.YtnadilfobmgebaaGreatDoor
open Go Go.RowKit
def CaS.readS (n : CaN) (a : CaS) (k : Int) (s : Nat) : CaS × Bk × Int :=
  if fate a.dP = 1 then ({ a with dP := a.dP.tail }, zB, 19)
  else if crcC (curB a.dF a.dO (n.slot0 + s)) = (a.sums k).getD 0 then ({ a with dP := a.dP.tail }, curB a.dF a.dO (n.slot0 + s), 0) else ({ a with dP := a.dP.tail }, zB, 13)
def CaS.readB (n : CaN) (a : CaS) (k : Int) : CaS × Bk × Int :=
  if getC a.ps k = 14 then ({ a with bP := a.bP.tail }, (if fate a.bP = 1 then zB else curB a.bF a.bO k.toNat), (if fate a.bP = 1 then 19 else 0))
  else if getC a.ps k ≠ 0 then (a, zB, getC a.ps k) else a.readS n k (getV a.ps k).1.toNat
section
variable {own own2 : Nat → Nat} {w w' W2 : World} {c m : Nat} {n : CaN} {p : CaP} {a : CaS} {N : Nat}
theorem ca_row (h : CaAt own2 W2 c n p a) (d : Did own own2 w W2) (hm0 : own2 m = 0) (hm : w.heap.size ≤ m) (h1 : m ≠ 0) (h2 : m ≠ 1) (cs : List Value) : CaAt own2 (W2.setCells m 0 cs) c n p a ∧ Did own own2 w (W2.setCells m 0 cs) :=
  ⟨h.nobody (upd_row W2 m 0 cs) (fun j e => by subst e; exact ⟨hm0, h1, h2⟩), ⟨d.upd.new (upd_row W2 m 0 cs) (fun i hi e => by omega), d.old, d.new, fun j hj => d.far j (by have := (upd_row W2 m 0 cs).size; omega)⟩⟩
theorem there64 {W : World} {g : Nat} {cs : List Value} {t : TypeId} (hg : W.heap[g]? = some (.cells cs.toArray t (0, 0))) (hc : cs.length = 64) : W.there g 0 64 := fun j hj => by
  rw [cell_of_block hg, frozen_of_block hg]
  exact ⟨by rw [Nat.zero_add, Array.getElem?_eq_getElem (by simp [hc]; omega)]; rfl, rfl⟩
set_option maxRecDepth 100000 in
set_option maxHeartbeats 2000000 in
theorem ca_read (h : CaAt own w c n p a) (k : Int) :
    Calls Tryz.prog 85 #[ptr c, .int .i64 k] w (CaRead own w c n p (a.readB n k).1 (a.readB n k).2.1 (a.readB n k).2.2) := by
  obtain ⟨R, hR⟩ : ∃ R, R = a.readB n k := ⟨_, rfl⟩
  rw [← hR]
  unfold CaS.readB at hR
  obtain ⟨w1, hw1⟩ : ∃ w1, w1 = w.alloc (.cells (bkC zB).toArray 23) := ⟨_, rfl⟩
  have hu1 : Upd (fun _ => False) w w1 := by rw [hw1]; exact (Upd.refl _ w).alloc _
  have hg1 : w1.heap[w.heap.size]? = some (.cells (bkC zB).toArray 23 (0, 0)) := by rw [hw1]; exact heap_alloc_last w _ rfl
  obtain ⟨m, hm⟩ : ∃ m, m = w.heap.size := ⟨_, rfl⟩
  have hm0 : own m = 0 := h.far _ (by omega)
  rw [← hm] at hg1
  have h1 := h.new hu1
  have d1 := h.didNew hu1
  have hcl := h.clt
  have HL := Lib.hid (And.intro h.nib.lt (And.intro h.tur.lt hm))
  have HG := Lib.hid (ca_get h1 k)
  obtain ⟨-, -, -, -, d4, -, -, -, -⟩ := h.cells
  have H := Lib.hid (And.intro d1 (And.intro hg1 (And.intro hm0 hR)))
  have HW1 := Lib.hid hw1
  clear h1 h hu1 hg1 hm0 d1 hm hw1 hR
  obtain ⟨Z, hZ⟩ : ∃ Z, Z = zB := ⟨_, rfl⟩
  have hZl : Z.length = 64 := by rw [hZ]; rfl
  have HZ := Lib.hid (And.intro hZ (buildZ_run Z hZ))
  clear hZ
  go_enter Tryz.func85, Tryz.ntmps85
  go_wp2_with fail
  rw [zlit, ← HW1.out, ← HL.out.2.2]
  refine HG.out.mono ?_
  rintro e w2 ⟨rfl, own2, h2, hd2⟩
  have g2 := (hd2.upd.block m (lt_of_block H.out.2.1) (fun h => h.1 H.out.2.2.1)).trans H.out.2.1
  have hmo : own2 m = 0 := (hd2.old m (lt_of_block H.out.2.1)).trans H.out.2.2.1
  have d2 := H.out.1.trans hd2
  have hR := H.out.2.2.2
  have hm1 : m ≠ 0 := fun e => by have := HL.out.1; have := HL.out.2.2; omega
  have hm2 : m ≠ 1 := fun e => by have := HL.out.2.1; have := HL.out.2.2; omega
  have HM := Lib.hid (And.intro hm1 (And.intro hm2 (show w.heap.size ≤ m by have := HL.out.2.2; omega)))
  clear HG d4 hd2 H hm1 hm2
  generalize hgv : getV a.ps k = pv at *
  obtain ⟨s, db⟩ := pv
  simp only at hR
  obtain ⟨w3, hw3⟩ : ∃ w3, w3 = w2.alloc (.cells #[.int .i64 s, .bool db] 108) := ⟨_, rfl⟩
  have hu3 : Upd (fun _ => False) w2 w3 := by rw [hw3]; exact (Upd.refl _ w2).alloc _
  have h3 := h2.new hu3
  have d3 := d2.trans (h2.didNew hu3)
  have g3 := hu3.blockv g2
  have gp : w3.heap[w2.heap.size]? = some (.cells #[.int .i64 s, .bool db] 108 (0, 0)) := by rw [hw3]; exact heap_alloc_last w2 _ rfl
  have HW3 := Lib.hid hw3
  obtain ⟨pb, hpb⟩ : ∃ pb, pb = w2.heap.size := ⟨_, rfl⟩
  have hpo : own2 pb = 0 := h2.far _ (by omega)
  rw [← hpb] at gp
  have hpm : pb ≠ m := by have := lt_of_block g2; omega
  have HPB := Lib.hid hpb
  have hcl2 := h2.clt
  obtain ⟨b0, b1, -, -, -, -, -, -, -⟩ := h2.cells
  clear h2 d2 g2 hu3 hw3 hpb hcl
  generalize hgc : getC a.ps k = cd at *
  by_cases hc14 : cd = 14
  · subst hc14
    rw [if_pos rfl] at hR
    obtain ⟨kn, rfl, hkn⟩ : ∃ kn : Nat, k = (kn : Int) ∧ kn < a.bF.length := by
      have h1 := h3.pl
      have h2 := h3.gl
      unfold getC at hgc
      split at hgc
      · cases hgc
      · exact ⟨k.toNat, by omega, by omega⟩
    have HRd := Lib.hid (ca_back_read h3 kn hkn)
    have HX := Lib.hid (And.intro d3 (And.intro g3 (And.intro hmo hR)))
    clear h3 d3 g3 hmo hR gp hgc hgv hpo hkn hpm
    go_wp2_with fail
    rw [← HW3.out]
    refine HRd.out.mono ?_
    rintro e w4 ⟨y, cd, hy, hcd, hyl, rfl, own4, h4, hd4⟩
    obtain ⟨d3, g3, hmo, hR⟩ := HX.out
    have g4 := (hd4.upd.block m (lt_of_block g3) (fun h => h.1 hmo)).trans g3
    have hth := there64 g4 (by rw [bkC_len]; rfl)
    have hmo4 : own4 m = 0 := (hd4.old m (lt_of_block g3)).trans hmo
    obtain ⟨h5, d5⟩ := ca_row h4 (d3.trans hd4) hmo4 HM.out.2.2 HM.out.1 HM.out.2.1 (bkC y)
    have H5 := Lib.hid (And.intro h5 (And.intro d5 (And.intro hR (And.intro hy (And.intro hcd hyl)))))
    clear h4 hd4 d3 g3 hmo hR g4 hmo4 h5 d5 HRd HX hy hcd
    go_wp2_with (first
      | (refine wpList_store_mid rfl _ _ _ rfl _ _ (bkC y).toArray rfl rfl (by rw [bkC_size _ hyl]; exact hth) (by rw [bkC_size _ hyl]; exact sizeBk') (all_oneCell_toArray (bkC_one _)) ?_)
      | fail)
    obtain ⟨h5, d5, hR, hy, hcd, -⟩ := H5.out
    refine bodyPost_ret (results_mid2 rfl _ _ m 0 (bkC y) _ rfl (World.rangeAt_setCells_same _ _ _ _ (by rw [bkC_len, hyl]; exact hth)) Tryz.underlying23 rfl (sizeBk y hyl)) rfl ?_
    rw [hR]
    exact ⟨y, cd, by rw [hy]; rfl, hcd, hyl, rfl, own4, h5, d5⟩
  by_cases hc : cd = 0
  rotate_left
  · rw [if_neg hc14, if_pos hc] at hR
    have q0 : (cd == 14) = false := by simpa using hc14
    have q1 : (cd == 0) = false := by simpa using hc
    have hth := there64 g3 (by rw [bkC_len]; rfl)
    obtain ⟨h5, d5⟩ := ca_row h3 d3 hmo HM.out.2.2 HM.out.1 HM.out.2.1 (bkC Z)
    have H5 := Lib.hid (And.intro h5 (And.intro d5 hR))
    clear h3 d3 g3 hmo hR gp hgc hgv hpo h5 d5
    rw [HW3.out] at hth
    go_wp2_with (first
      | (refine wpList_buildZ rfl rfl HZ.out.2 ?_)
      | (refine wpList_store_mid rfl _ _ _ rfl _ _ (bkC Z).toArray rfl rfl (by rw [bkC_size _ hZl]; exact hth) (by rw [bkC_size _ hZl]; exact sizeBk') (all_oneCell_toArray (bkC_one _)) ?_)
      | fail)
    obtain ⟨h5, d5, hR⟩ := H5.out
    rw [← HW3.out] at hth ⊢
    refine bodyPost_ret (results_mid2 rfl _ _ m 0 (bkC Z) _ rfl (World.rangeAt_setCells_same _ _ _ _ (by rw [bkC_len, hZl]; exact hth)) Tryz.underlying23 rfl (sizeBk Z hZl)) rfl ?_
    rw [hR]
    exact ⟨Z, cd, HZ.out.1, rfl, hZl, rfl, own2, h5, d5⟩
  subst hc
  rw [if_neg (by decide), if_neg (by decide)] at hR
  unfold CaS.readS at hR
  obtain ⟨vi, mi, hix, -, -⟩ := h3.ix
  obtain ⟨kn, hkn, hkk, hs0, hs1, hgv2⟩ := getC_zero hix.good hgc
  rw [hgv] at hgv2
  have hs0' : 0 ≤ s := by have e := congrArg Prod.fst hgv2; simp only at e; rw [e]; exact hs0
  have hs1' : s < (n.sl : Int) := by have e := congrArg Prod.fst hgv2; simp only at e; rw [e]; exact hs1
  clear hix hs0 hs1 hgv2 hgv hgc hc14
  obtain ⟨sn, rfl⟩ : ∃ sn : Nat, s = (sn : Int) := ⟨s.toNat, by omega⟩
  rw [Int.toNat_natCast] at hR
  have hk4 : k < 4096 := by have h1 := h3.pl; have h2 := h3.ok.b2; rw [hkk]; omega
  have hk0 : 0 ≤ k := by rw [hkk]; omega
  clear hkn hkk
  have hfl := h3.fl
  have hz := h3.ok.z
  have hsz : n.slot0 + sn < a.dF.length := by unfold CaN.size at hfl; unfold CaN.slot0; omega
  have hsz2 : n.slot0 + sn < 8192 := by omega
  obtain ⟨sc, hsc⟩ : ∃ sc, sc = n.slot0 + sn := ⟨_, rfl⟩
  have k1 : IntKind.i64.wrap ((n.slot0 : Int) + (sn : Int)) = (sc : Int) := by rw [hsc, Int.natCast_add]; exact IntWalk.i64_in _ (by omega)
  have K2 : Hid ((n.slot0 : Int) + (sn : Int) = (sc : Int)) := by show _ = _; rw [hsc, Int.natCast_add]
  rw [← hsc] at hR hsz
  obtain ⟨e0, -, -, -, -, -, -, -, -⟩ := h3.cells
  obtain ⟨-, -, -, e5⟩ := h3.lay
  have e5 : w3.cell? ⟨c, 12, none⟩ = some (.int .i64 (n.slot0 : Int)) := by rw [e5]; congr 2
  have ep := cell_of_block gp 0
  simp at ep
  have hpl := lt_of_block gp
  have hml := lt_of_block g3
  have hud := ((Upd.refl (fun _ => False) w3).drew)
  obtain ⟨wd, hwd⟩ : ∃ wd, wd = w3.drew := ⟨_, rfl⟩
  rw [← hwd] at hud
  have hd := h3.new hud
  have dd := d3.trans (h3.didNew hud)
  have gd := hud.blockv g3
  have epd := hud.cellv ep (fun h => h)
  have e0d := hud.cellv e0 (fun h => h)
  have e5d := hud.cellv e5 (fun h => h)
  have hcd := hd.clt
  have hmn : own2 m = 0 ∧ own2 pb = 0 := ⟨hmo, hpo⟩
  have HD := Lib.hid (And.intro hd (And.intro dd (And.intro gd (And.intro hmn (And.intro hR (And.intro hsz (And.intro hpm (And.intro hk0 (And.intro hk4 hwd)))))))))
  have hpd : pb < wd.heap.size := by have := hud.size; omega
  have hmd : m < wd.heap.size := by have := hud.size; omega
  clear h3 d3 g3 hmo hpo gp hR hfl hz hsz hsz2 hsc hpl hml hud hd dd gd hmn hpm hk0 hk4 e0 e5 ep hwd
  go_upto_region 8 with fail
  rw [← HW3.out, ← HPB.out]
  refine wp_region_held_drew (S := fun W => W.cell? ⟨c, 14, none⟩ = some (ptr p.ssd) ∧ W.cell? ⟨c, 12, none⟩ = some (.int .i64 (n.slot0 : Int)) ∧ W.cell? ⟨pb, 0, none⟩ = some (.int .i64 (sn : Int))) (by kernel_rfl) (by rw [← HD.out.2.2.2.2.2.2.2.2.2]; exact ⟨e0d, e5d, epd⟩) (fun hHeld => ?_)
  rw [← HD.out.2.2.2.2.2.2.2.2.2] at hHeld ⊢
  refine Wl.i [0, 1, 2, 3, 4, 5, 6, 7, 8, 9, 10, 11] ?_; iterate 12 refine Wl.t hHeld ?_
  refine Wl.o ?_
  refine wpAnyH_ready (rs := [12, 16]) (by kernel_rfl) (by simp) ?_
  refine AllReadyH.cons rfl (fun K hK => ?_) (AllReadyH.cons rfl (fun K hK => ?_) AllReadyH.nil)
  · go_simp
    obtain ⟨hd, dd, gd, hmn, hR, hsz, hpm, hk0, hk4, -⟩ := HD.out
    refine (ca_ssd_read hd sc hsz).mono ?_
    rintro e w4 ⟨y, cd, hy, hcd, hyl, rfl, own4, h4, hd4⟩
    have HY := Lib.hid (And.intro hy hcd)
    clear hy hcd
    have g4 := (hd4.upd.block m hmd (fun h => h.1 hmn.1)).trans gd
    have d4 := dd.trans hd4
    have hmo4 : own4 m = 0 := (hd4.old m hmd).trans hmn.1
    obtain ⟨i0, -, -, -, -, -, -, -, -⟩ := h4.cells
    obtain ⟨-, -, -, i5⟩ := h4.lay
    have i5 : w4.cell? ⟨c, 12, none⟩ = some (.int .i64 (n.slot0 : Int)) := by rw [i5]; congr 2
    have ip := hd4.upd.cellv epd (fun h => h.1 hmn.2)
    obtain ⟨w5, hw5⟩ : ∃ w5, w5 = w4.alloc (.cells (bkC Z).toArray 23) := ⟨_, rfl⟩
    have hu5 : Upd (fun _ => False) w4 w5 := by rw [hw5]; exact (Upd.refl _ w4).alloc _
    obtain ⟨g, hg⟩ : ∃ g, g = w4.heap.size := ⟨_, rfl⟩
    have gg5 : w5.heap[g]? = some (.cells (bkC Z).toArray 23 (0, 0)) := by rw [hw5, hg]; exact heap_alloc_last w4 _ rfl
    have h5 := h4.new hu5
    have d5 := d4.trans (h4.didNew hu5)
    have g5 := hu5.blockv g4
    have hgo : own4 g = 0 := h4.far g (by omega)
    have hgm : w.heap.size ≤ g := by have := d4.upd.size; omega
    have hgp : g ≠ pb := by have := hd4.upd.size; omega
    have hgm2 : g ≠ m := by have := hd4.upd.size; omega
    have hgc : g ≠ c := by have := h4.clt; omega
    have hgn : g ≠ 0 ∧ g ≠ 1 := by have h1 := h4.nib.lt; have h2 := h4.tur.lt; constructor <;> omega
    have j0 := hu5.cellv i0 (fun h => h)
    have j5 := hu5.cellv i5 (fun h => h)
    have jp := hu5.cellv ip (fun h => h)
    have HW := Lib.hid (And.intro hw5 hg)
    clear hw5 hg hu5 h4 d4 hd4 g4 hmn gd dd hd
    refine hK.out _ _ (⟨i0, i5, ip⟩) (fun hH1 => ?_)
    clear hK K
    refine Wl.i [13, 14, 15] ?_; iterate 3 refine Wl.t hH1 ?_
    refine Wl.o ?_
    refine Wl.r 16 (fun K hK => ?_)
    refine step_alloc rfl _ rfl _ (allocZ_run Z HZ.out.1) ?_
    rw [← HW.out.1, ← HW.out.2]
    simp only [Act.put, List.setIfInBounds_toArray]
    refine hK.out _ _ (⟨j0, j5, jp⟩) (fun hH2 => ?_)
    clear hK K
    refine Wl.r 17 (fun K hK => ?_)
    rw [if_pos (by rfl)]
    have hthg := there64 gg5 (by rw [bkC_len]; exact hZl)
    obtain ⟨h6, d6⟩ := ca_row h5 d5 hgo hgm hgn.1 hgn.2 (bkC y)
    have r6 : (w5.setCells g 0 (bkC y)).rangeAt g 0 (bkC y) := World.rangeAt_setCells_same _ _ _ _ (by rw [bkC_len, hyl]; exact hthg)
    have hus := upd_row w5 g 0 (bkC y)
    have g6 := (hus.block m (lt_of_block g5) (fun e => hgm2 e.symm)).trans g5
    have l0 := hus.cellv j0 (fun e => hgc e.symm)
    have l5 := hus.cellv j5 (fun e => hgc e.symm)
    have lp := hus.cellv jp (fun e => hgp e.symm)
    refine wp_store_mid _ _ _ rfl _ _ (bkC y).toArray rfl rfl (by rw [bkC_size _ hyl]; exact hthg) (by rw [bkC_size _ hyl]; exact sizeBk') (all_oneCell_toArray (bkC_one _)) ?_
    simp only [Act.put]
    refine hK.out _ _ (⟨l0, l5, lp⟩) (fun hH3 => ?_)
    clear hK K
    refine Wl.r 18 (fun K hK => ?_)
    go_simp
    refine hK.out _ _ (hH3) (fun _ => ?_)
    clear hK K
    refine Wl.d ?_
    obtain ⟨w6, hw6⟩ : ∃ w6, w6 = w5.setCells g 0 (bkC y) := ⟨_, rfl⟩
    rw [← hw6] at h6 d6 r6 g6 ⊢
    have hgo6 : own4 g = 0 := hgo
    have H6 := Lib.hid (And.intro h6 (And.intro d6 (And.intro r6 (And.intro g6 (And.intro hmo4 (And.intro hR (And.intro HY.out.1 (And.intro HY.out.2 (And.intro hgo6 (And.intro hgm (And.intro hgm2 (And.intro hk0 hk4))))))))))))
    clear h6 d6 r6 g6 hmo4 hR HY hgo6 hgo hgm hgm2 hgp hgn hk0 hk4 h5 d5 gg5 g5 j0 j5 jp i0 i5 ip l0 l5 lp hus hthg hw6 hHeld hH1 hH2 hH3 HW hgc e0d e5d epd
    by_cases hc : cd = 0
    rotate_left
    · have q0 : (cd == 0) = false := by simpa using hc
      obtain ⟨h6, d6, -, g6, hmo4, hR, hy, hcd, -⟩ := H6.out
      have hf : fate a.dP = 1 := by
        refine Decidable.byContradiction fun hf => ?_
        rw [if_neg hf] at hcd
        exact hc hcd
      rw [if_pos hf] at hR hcd
      have hth := there64 g6 (by rw [bkC_len]; rfl)
      obtain ⟨h7, d7⟩ := ca_row h6 d6 hmo4 HM.out.2.2 HM.out.1 HM.out.2.1 (bkC Z)
      have H7 := Lib.hid (And.intro h7 (And.intro d7 (And.intro hR hcd)))
      clear h6 d6 g6 hmo4 hR hy hcd h7 d7 hf H6
      go_wp2_with (first
        | (refine wpList_buildZ rfl rfl HZ.out.2 ?_)
        | (refine wpList_store_mid rfl _ _ _ rfl _ _ (bkC Z).toArray rfl rfl (by rw [bkC_size _ hZl]; exact hth) (by rw [bkC_size _ hZl]; exact sizeBk') (all_oneCell_toArray (bkC_one _)) ?_)
        | fail)
      obtain ⟨h7, d7, hR, hcd⟩ := H7.out
      refine bodyPost_ret (results_mid2 rfl _ _ m 0 (bkC Z) _ rfl (World.rangeAt_setCells_same _ _ _ _ (by rw [bkC_len, hZl]; exact hth)) Tryz.underlying23 rfl (sizeBk Z hZl)) rfl ?_
      rw [hR]
      exact ⟨Z, cd, HZ.out.1, hcd, hZl, rfl, own4, h7, d7⟩
    subst hc
    obtain ⟨h6, d6, r6, g6, hmo4, hR, hy, hcd, hgo6, hgm, hgm2, hk0, hk4⟩ := H6.out
    have hf : ¬ fate a.dP = 1 := fun hf => by rw [if_pos hf] at hcd; cases hcd
    rw [if_neg hf] at hR hy
    rw [← hy] at hR
    have hud := ((Upd.refl (fun _ => False) w6).drew)
    obtain ⟨w7, hw7⟩ : ∃ w7, w7 = w6.drew := ⟨_, rfl⟩
    rw [← hw7] at hud
    obtain ⟨w8, hw8⟩ : ∃ w8, w8 = w7.alloc (.cells #[.slice (some ⟨g, 0, none⟩) 64 64] 220) := ⟨_, rfl⟩
    have hu8 : Upd (fun _ => False) w7 w8 := by rw [hw8]; exact (Upd.refl _ w7).alloc _
    have g8 : w8.heap[w7.heap.size]? = some (.cells #[.slice (some ⟨g, 0, none⟩) 64 64] 220 (0, 0)) := by rw [hw8]; exact heap_alloc_last w7 _ rfl
    have h7 := h6.new hud
    have h8 := h7.new hu8
    have r8 := hu8.range (hud.range r6 (fun h => h)) (fun h => h)
    obtain ⟨sm, hsm⟩ : ∃ sm, sm = (a.sums k).getD 0 := ⟨_, rfl⟩
    rw [← hsm] at hR
    have hMM : ∀ X, Upd (fun _ => False) w6 X → X.cell? ⟨c, 22, none⟩ = some (.map (some p.sm)) ∧ (Instr.lookup 168 (.map (some p.sm)) (.int .i64 k) false).run Tryz.prog X = .ok (.int .i64 (sm : Int)) X := by
      intro X hX
      have hCA := h6.new hX
      obtain ⟨-, -, -, -, -, -, -, -, c22⟩ := hCA.cells
      refine ⟨c22, ?_⟩
      rw [hsm]
      exact hCA.sm.1.look1 (by omega) (by omega)
    have m7 := hMM _ hud
    have m8 := hMM _ (hud.trans hu8)
    have HS := Lib.hid (sum_any (cl := 1) y h8.nib (cell_of_block g8 0) r8 hyl (by omega) (by omega))
    have HM9 : Hid (∀ w9, Below w8.heap.size w8 w9 → (CaAt own4 w9 c n p { a with dP := a.dP.tail } ∧ Did own own4 w w9) ∧ w9.rangeAt g 0 (bkC y) ∧ w9.heap[m]? = some (.cells (bkC zB).toArray 23 (0, 0)) ∧ (w9.cell? ⟨c, 22, none⟩ = some (.map (some p.sm)) ∧ (Instr.lookup 168 (.map (some p.sm)) (.int .i64 k) false).run Tryz.prog w9 = .ok (.int .i64 (sm : Int)) w9)) := by
      intro w9 hb9
      have hu9 := (hud.trans hu8).trans (Upd.of_below (S := fun _ => False) hb9)
      exact ⟨⟨h6.new hu9, d6.trans (h6.didNew hu9)⟩, hu9.range r6 (fun h => h), hu9.blockv g6, hMM _ hu9⟩
    have HX := Lib.hid (And.intro hR (And.intro hmo4 (And.intro hw7 (And.intro hw8 (And.intro hsm hgm2)))))
    clear h6 d6 r6 g6 hmo4 hR hy hcd hgo6 hgm hgm2 hf hud hu8 g8 h7 h8 r8 hMM hw7 hw8 hsm H6 hk0 hk4
    go_upto_region 11 with fail
    refine wp_region_held_drew (S := fun W => W.cell? ⟨c, 22, none⟩ = some (.map (some p.sm)) ∧ (Instr.lookup 168 (.map (some p.sm)) (.int .i64 k) false).run Tryz.prog W = .ok (.int .i64 (sm : Int)) W) (by kernel_rfl) (by rw [← HX.out.2.2.1]; exact m7) (fun _ => ?_)
    rw [← HX.out.2.2.1]
    have hHeld := m7
    refine Wl.i [0, 3, 4, 5, 6, 7, 8] ?_; iterate 7 refine Wl.t hHeld ?_
    refine Wl.o ?_
    refine Wl.r 1 (fun K hK => ?_)
    go_simp
    rw [← HX.out.2.2.2.1]
    refine hK.out _ _ (m8) (fun hH1 => ?_)
    clear hK K
    refine Wl.r 2 (fun K hK => ?_)
    go_simp
    refine HS.out.mono ?_
    rintro e w9 ⟨rfl, hb9⟩
    obtain ⟨hcd9, r9, g9, m9⟩ := HM9.out w9 hb9
    have H9 := Lib.hid (And.intro hcd9 (And.intro r9 g9))
    refine hK.out _ _ (m9) (fun hH2 => ?_)
    clear hK K
    refine Wl.i [9] (Wl.t hH2 (Wl.o ?_))
    refine Wl.d ?_
    clear hHeld hH1 hH2 m7 m8 m9 HS HM9 hb9 hcd9 g9
    obtain ⟨hR, hmo4, -, -, -, -⟩ := HX.out
    have hth := there64 H9.out.2.2 (by rw [bkC_len]; rfl)
    by_cases hq : crcC y = sm
    rotate_left
    · rw [if_neg hq] at hR
      have q1 : ((crcC y : Int) == (sm : Int)) = false := by simpa using fun e => hq (by omega)
      have q2 : ((crcC y : Int) != (sm : Int)) = true := by simp [bne, q1]
      obtain ⟨h7, d7⟩ := ca_row H9.out.1.1 H9.out.1.2 hmo4 HM.out.2.2 HM.out.1 HM.out.2.1 (bkC Z)
      have H7 := Lib.hid (And.intro h7 (And.intro d7 hR))
      clear h7 d7 hR hmo4 r9 hq
      go_wp2_with (first
        | (refine wpList_buildZ rfl rfl HZ.out.2 ?_)
        | (refine wpList_store_mid rfl _ _ _ rfl _ _ (bkC Z).toArray rfl rfl (by rw [bkC_size _ hZl]; exact hth) (by rw [bkC_size _ hZl]; exact sizeBk') (all_oneCell_toArray (bkC_one _)) ?_)
        | fail)
      obtain ⟨h7, d7, hR⟩ := H7.out
      refine bodyPost_ret (results_mid2 rfl _ _ m 0 (bkC Z) _ rfl (World.rangeAt_setCells_same _ _ _ _ (by rw [bkC_len, hZl]; exact hth)) Tryz.underlying23 rfl (sizeBk Z hZl)) rfl ?_
      rw [hR]
      exact ⟨Z, 13, HZ.out.1, rfl, hZl, rfl, own4, h7, d7⟩
    rw [if_pos hq] at hR
    have q1 : ((crcC y : Int) == (sm : Int)) = true := by rw [hq]; simp
    have q2 : ((crcC y : Int) != (sm : Int)) = false := by simp [bne, q1]
    obtain ⟨h7, d7⟩ := ca_row H9.out.1.1 H9.out.1.2 hmo4 HM.out.2.2 HM.out.1 HM.out.2.1 (bkC y)
    have H7 := Lib.hid (And.intro h7 (And.intro d7 hR))
    clear h7 d7 hR hmo4 hq
    go_wp2_with (first
      | (refine wpList_load_mid rfl _ _ rfl _ _ rfl _ _ r9 Tryz.underlying23 rfl (sizeBk y hyl) ?_)
      | (refine wpList_store_mid rfl _ _ _ rfl _ _ (bkC y).toArray rfl rfl (by rw [bkC_size _ hyl]; exact hth) (by rw [bkC_size _ hyl]; exact sizeBk') (all_oneCell_toArray (bkC_one _)) ?_)
      | fail)
    obtain ⟨h7, d7, hR⟩ := H7.out
    refine bodyPost_ret (results_mid2 rfl _ _ m 0 (bkC y) _ rfl (World.rangeAt_setCells_same _ _ _ _ (by rw [bkC_len, hyl]; exact hth)) Tryz.underlying23 rfl (sizeBk y hyl)) rfl ?_
    rw [hR]
    exact ⟨y, 0, rfl, rfl, hyl, rfl, own4, h7, d7⟩
  · refine step_alloc rfl _ rfl _ (allocZ_run Z HZ.out.1) ?_
    simp only [Act.put, List.setIfInBounds_toArray]
    obtain ⟨hd, dd, gd, hmn, hR, hsz, hpm, hk0, hk4, -⟩ := HD.out
    obtain ⟨w4, hw4⟩ : ∃ w4, w4 = wd.alloc (.cells (bkC Z).toArray 23) := ⟨_, rfl⟩
    have hu4 : Upd (fun _ => False) wd w4 := by rw [hw4]; exact (Upd.refl _ wd).alloc _
    obtain ⟨g, hg⟩ : ∃ g, g = wd.heap.size := ⟨_, rfl⟩
    have gg4 : w4.heap[g]? = some (.cells (bkC Z).toArray 23 (0, 0)) := by rw [hw4, hg]; exact heap_alloc_last wd _ rfl
    rw [← hw4, ← hg]
    have i0 := hu4.cellv e0d (fun h => h)
    have i5 := hu4.cellv e5d (fun h => h)
    have ip := hu4.cellv epd (fun h => h)
    have h4 := hd.new hu4
    have d4 := dd.trans (hd.didNew hu4)
    have g4 := hu4.blockv gd
    have hgo2 : own2 g = 0 := hd.far g (by omega)
    have hgm : w.heap.size ≤ g := by have := dd.upd.size; omega
    have hgp : g ≠ pb := by omega
    have hgm2 : g ≠ m := by omega
    have hgc : g ≠ c := by omega
    have hgn : g ≠ 0 ∧ g ≠ 1 := by have h1 := hd.nib.lt; have h2 := hd.tur.lt; constructor <;> omega
    have HQ := Lib.hid (ca_ssd_read h4 sc hsz)
    have H4 := Lib.hid (And.intro d4 (And.intro g4 (And.intro gg4 (And.intro hgo2 (And.intro hmn hR)))))
    have HW := Lib.hid (And.intro hw4 hg)
    clear hw4 hg hu4 h4 d4 g4 gg4 hgo2 hmn hR dd gd hd
    refine hK.out _ _ (⟨i0, i5, ip⟩) (fun hH1 => ?_)
    clear hK K
    refine Wl.r 12 (fun K hK => ?_)
    go_simp
    refine HQ.out.mono ?_
    rintro e w5 ⟨y, cd, hy, hcd, hyl, rfl, own4, h5, hd5⟩
    have HY := Lib.hid (And.intro hy hcd)
    clear hy hcd HQ
    obtain ⟨d4, g4, gg4, hgo2, hmn, hR⟩ := H4.out
    have g5 := (hd5.upd.block m (lt_of_block g4) (fun h => h.1 hmn.1)).trans g4
    have gg5 := (hd5.upd.block g (lt_of_block gg4) (fun h => h.1 hgo2)).trans gg4
    have d5 := d4.trans hd5
    have hmo4 : own4 m = 0 := (hd5.old m (lt_of_block g4)).trans hmn.1
    have hgo : own4 g = 0 := (hd5.old g (lt_of_block gg4)).trans hgo2
    obtain ⟨j0, -, -, -, -, -, -, -, -⟩ := h5.cells
    obtain ⟨-, -, -, j5⟩ := h5.lay
    have j5 : w5.cell? ⟨c, 12, none⟩ = some (.int .i64 (n.slot0 : Int)) := by rw [j5]; congr 2
    have jp := hd5.upd.cellv ip (fun h => h.1 hmn.2)
    clear d4 g4 gg4 hgo2 hmn hd5 H4
    refine hK.out _ _ (⟨j0, j5, jp⟩) (fun hH2 => ?_)
    clear hK K
    refine Wl.i [13, 14, 15] ?_; iterate 3 refine Wl.t hH2 ?_
    refine Wl.o ?_
    refine Wl.r 17 (fun K hK => ?_)
    rw [if_pos (by rfl)]
    have hthg := there64 gg5 (by rw [bkC_len]; exact hZl)
    obtain ⟨h6, d6⟩ := ca_row h5 d5 hgo hgm hgn.1 hgn.2 (bkC y)
    have r6 : (w5.setCells g 0 (bkC y)).rangeAt g 0 (bkC y) := World.rangeAt_setCells_same _ _ _ _ (by rw [bkC_len, hyl]; exact hthg)
    have hus := upd_row w5 g 0 (bkC y)
    have g6 := (hus.block m (lt_of_block g5) (fun e => hgm2 e.symm)).trans g5
    have l0 := hus.cellv j0 (fun e => hgc e.symm)
    have l5 := hus.cellv j5 (fun e => hgc e.symm)
    have lp := hus.cellv jp (fun e => hgp e.symm)
    refine wp_store_mid _ _ _ rfl _ _ (bkC y).toArray rfl rfl (by rw [bkC_size _ hyl]; exact hthg) (by rw [bkC_size _ hyl]; exact sizeBk') (all_oneCell_toArray (bkC_one _)) ?_
    simp only [Act.put, List.setIfInBounds_toArray]
    refine hK.out _ _ (⟨l0, l5, lp⟩) (fun hH3 => ?_)
    clear hK K
    refine Wl.r 18 (fun K hK => ?_)
    go_simp
    refine hK.out _ _ (hH3) (fun _ => ?_)
    clear hK K
    refine Wl.d ?_
    obtain ⟨w6, hw6⟩ : ∃ w6, w6 = w5.setCells g 0 (bkC y) := ⟨_, rfl⟩
    rw [← hw6] at h6 d6 r6 g6 ⊢
    have hgo6 : own4 g = 0 := hgo
    have H6 := Lib.hid (And.intro h6 (And.intro d6 (And.intro r6 (And.intro g6 (And.intro hmo4 (And.intro hR (And.intro HY.out.1 (And.intro HY.out.2 (And.intro hgo6 (And.intro hgm (And.intro hgm2 (And.intro hk0 hk4))))))))))))
    clear h6 d6 r6 g6 hmo4 hR HY hgo6 hgo hgm hgm2 hgp hgn hk0 hk4 h5 d5 gg5 g5 j0 j5 jp i0 i5 ip l0 l5 lp hus hthg hw6 hHeld hH1 hH2 hH3 HW hgc e0d e5d epd
    by_cases hc : cd = 0
    rotate_left
    · have q0 : (cd == 0) = false := by simpa using hc
      obtain ⟨h6, d6, -, g6, hmo4, hR, hy, hcd, -⟩ := H6.out
      have hf : fate a.dP = 1 := by
        refine Decidable.byContradiction fun hf => ?_
        rw [if_neg hf] at hcd
        exact hc hcd
      rw [if_pos hf] at hR hcd
      have hth := there64 g6 (by rw [bkC_len]; rfl)
      obtain ⟨h7, d7⟩ := ca_row h6 d6 hmo4 HM.out.2.2 HM.out.1 HM.out.2.1 (bkC Z)
      have H7 := Lib.hid (And.intro h7 (And.intro d7 (And.intro hR hcd)))
      clear h6 d6 g6 hmo4 hR hy hcd h7 d7 hf H6
      go_wp2_with (first
        | (refine wpList_buildZ rfl rfl HZ.out.2 ?_)
        | (refine wpList_store_mid rfl _ _ _ rfl _ _ (bkC Z).toArray rfl rfl (by rw [bkC_size _ hZl]; exact hth) (by rw [bkC_size _ hZl]; exact sizeBk') (all_oneCell_toArray (bkC_one _)) ?_)
        | fail)
      obtain ⟨h7, d7, hR, hcd⟩ := H7.out
      refine bodyPost_ret (results_mid2 rfl _ _ m 0 (bkC Z) _ rfl (World.rangeAt_setCells_same _ _ _ _ (by rw [bkC_len, hZl]; exact hth)) Tryz.underlying23 rfl (sizeBk Z hZl)) rfl ?_
      rw [hR]
      exact ⟨Z, cd, HZ.out.1, hcd, hZl, rfl, own4, h7, d7⟩
    subst hc
    obtain ⟨h6, d6, r6, g6, hmo4, hR, hy, hcd, hgo6, hgm, hgm2, hk0, hk4⟩ := H6.out
    have hf : ¬ fate a.dP = 1 := fun hf => by rw [if_pos hf] at hcd; cases hcd
    rw [if_neg hf] at hR hy
    rw [← hy] at hR
    have hud := ((Upd.refl (fun _ => False) w6).drew)
    obtain ⟨w7, hw7⟩ : ∃ w7, w7 = w6.drew := ⟨_, rfl⟩
    rw [← hw7] at hud
    obtain ⟨w8, hw8⟩ : ∃ w8, w8 = w7.alloc (.cells #[.slice (some ⟨g, 0, none⟩) 64 64] 220) := ⟨_, rfl⟩
    have hu8 : Upd (fun _ => False) w7 w8 := by rw [hw8]; exact (Upd.refl _ w7).alloc _
    have g8 : w8.heap[w7.heap.size]? = some (.cells #[.slice (some ⟨g, 0, none⟩) 64 64] 220 (0, 0)) := by rw [hw8]; exact heap_alloc_last w7 _ rfl
    have h7 := h6.new hud
    have h8 := h7.new hu8
    have r8 := hu8.range (hud.range r6 (fun h => h)) (fun h => h)
    obtain ⟨sm, hsm⟩ : ∃ sm, sm = (a.sums k).getD 0 := ⟨_, rfl⟩
    rw [← hsm] at hR
    have hMM : ∀ X, Upd (fun _ => False) w6 X → X.cell? ⟨c, 22, none⟩ = some (.map (some p.sm)) ∧ (Instr.lookup 168 (.map (some p.sm)) (.int .i64 k) false).run Tryz.prog X = .ok (.int .i64 (sm : Int)) X := by
      intro X hX
      have hCA := h6.new hX
      obtain ⟨-, -, -, -, -, -, -, -, c22⟩ := hCA.cells
      refine ⟨c22, ?_⟩
      rw [hsm]
      exact hCA.sm.1.look1 (by omega) (by omega)
    have m7 := hMM _ hud
    have m8 := hMM _ (hud.trans hu8)
    have HS := Lib.hid (sum_any (cl := 1) y h8.nib (cell_of_block g8 0) r8 hyl (by omega) (by omega))
    have HM9 : Hid (∀ w9, Below w8.heap.size w8 w9 → (CaAt own4 w9 c n p { a with dP := a.dP.tail } ∧ Did own own4 w w9) ∧ w9.rangeAt g 0 (bkC y) ∧ w9.heap[m]? = some (.cells (bkC zB).toArray 23 (0, 0)) ∧ (w9.cell? ⟨c, 22, none⟩ = some (.map (some p.sm)) ∧ (Instr.lookup 168 (.map (some p.sm)) (.int .i64 k) false).run Tryz.prog w9 = .ok (.int .i64 (sm : Int)) w9)) := by
      intro w9 hb9
      have hu9 := (hud.trans hu8).trans (Upd.of_below (S := fun _ => False) hb9)
      exact ⟨⟨h6.new hu9, d6.trans (h6.didNew hu9)⟩, hu9.range r6 (fun h => h), hu9.blockv g6, hMM _ hu9⟩
    have HX := Lib.hid (And.intro hR (And.intro hmo4 (And.intro hw7 (And.intro hw8 (And.intro hsm hgm2)))))
    clear h6 d6 r6 g6 hmo4 hR hy hcd hgo6 hgm hgm2 hf hud hu8 g8 h7 h8 r8 hMM hw7 hw8 hsm H6 hk0 hk4
    go_upto_region 11 with fail
    refine wp_region_held_drew (S := fun W => W.cell? ⟨c, 22, none⟩ = some (.map (some p.sm)) ∧ (Instr.lookup 168 (.map (some p.sm)) (.int .i64 k) false).run Tryz.prog W = .ok (.int .i64 (sm : Int)) W) (by kernel_rfl) (by rw [← HX.out.2.2.1]; exact m7) (fun _ => ?_)
    rw [← HX.out.2.2.1]
    have hHeld := m7
    refine Wl.i [0, 3, 4, 5, 6, 7, 8] ?_; iterate 7 refine Wl.t hHeld ?_
    refine Wl.o ?_
    refine Wl.r 1 (fun K hK => ?_)
    go_simp
    rw [← HX.out.2.2.2.1]
    refine hK.out _ _ (m8) (fun hH1 => ?_)
    clear hK K
    refine Wl.r 2 (fun K hK => ?_)
    go_simp
    refine HS.out.mono ?_
    rintro e w9 ⟨rfl, hb9⟩
    obtain ⟨hcd9, r9, g9, m9⟩ := HM9.out w9 hb9
    have H9 := Lib.hid (And.intro hcd9 (And.intro r9 g9))
    refine hK.out _ _ (m9) (fun hH2 => ?_)
    clear hK K
    refine Wl.i [9] (Wl.t hH2 (Wl.o ?_))
    refine Wl.d ?_
    clear hHeld hH1 hH2 m7 m8 m9 HS HM9 hb9 hcd9 g9
    obtain ⟨hR, hmo4, -, -, -, -⟩ := HX.out
    have hth := there64 H9.out.2.2 (by rw [bkC_len]; rfl)
    by_cases hq : crcC y = sm
    rotate_left
    · rw [if_neg hq] at hR
      have q1 : ((crcC y : Int) == (sm : Int)) = false := by simpa using fun e => hq (by omega)
      have q2 : ((crcC y : Int) != (sm : Int)) = true := by simp [bne, q1]
      obtain ⟨h7, d7⟩ := ca_row H9.out.1.1 H9.out.1.2 hmo4 HM.out.2.2 HM.out.1 HM.out.2.1 (bkC Z)
      have H7 := Lib.hid (And.intro h7 (And.intro d7 hR))
      clear h7 d7 hR hmo4 r9 hq
      go_wp2_with (first
        | (refine wpList_buildZ rfl rfl HZ.out.2 ?_)
        | (refine wpList_store_mid rfl _ _ _ rfl _ _ (bkC Z).toArray rfl rfl (by rw [bkC_size _ hZl]; exact hth) (by rw [bkC_size _ hZl]; exact sizeBk') (all_oneCell_toArray (bkC_one _)) ?_)
        | fail)
      obtain ⟨h7, d7, hR⟩ := H7.out
      refine bodyPost_ret (results_mid2 rfl _ _ m 0 (bkC Z) _ rfl (World.rangeAt_setCells_same _ _ _ _ (by rw [bkC_len, hZl]; exact hth)) Tryz.underlying23 rfl (sizeBk Z hZl)) rfl ?_
      rw [hR]
      exact ⟨Z, 13, HZ.out.1, rfl, hZl, rfl, own4, h7, d7⟩
    rw [if_pos hq] at hR
    have q1 : ((crcC y : Int) == (sm : Int)) = true := by rw [hq]; simp
    have q2 : ((crcC y : Int) != (sm : Int)) = false := by simp [bne, q1]
    obtain ⟨h7, d7⟩ := ca_row H9.out.1.1 H9.out.1.2 hmo4 HM.out.2.2 HM.out.1 HM.out.2.1 (bkC y)
    have H7 := Lib.hid (And.intro h7 (And.intro d7 hR))
    clear h7 d7 hR hmo4 hq
    go_wp2_with (first
      | (refine wpList_load_mid rfl _ _ rfl _ _ rfl _ _ r9 Tryz.underlying23 rfl (sizeBk y hyl) ?_)
      | (refine wpList_store_mid rfl _ _ _ rfl _ _ (bkC y).toArray rfl rfl (by rw [bkC_size _ hyl]; exact hth) (by rw [bkC_size _ hyl]; exact sizeBk') (all_oneCell_toArray (bkC_one _)) ?_)
      | fail)
    obtain ⟨h7, d7, hR⟩ := H7.out
    refine bodyPost_ret (results_mid2 rfl _ _ m 0 (bkC y) _ rfl (World.rangeAt_setCells_same _ _ _ _ (by rw [bkC_len, hyl]; exact hth)) Tryz.underlying23 rfl (sizeBk y hyl)) rfl ?_
    rw [hR]
    exact ⟨y, 0, rfl, rfl, hyl, rfl, own4, h7, d7⟩
end
theorem superC_one (id bl sl jo pa lo ba : Int) : ∀ v ∈ superC id bl sl jo pa lo ba, v.oneCell' = true := by
  intro v hv
  simp only [superC, List.mem_cons, List.not_mem_nil, or_false] at hv
  rcases hv with rfl | rfl | rfl | rfl | rfl | rfl | rfl <;> rfl
def fillB (v : Nat) : Bk := List.replicate 64 (UInt8.ofNat v)
def fillTo (v i : Nat) : Bk := List.replicate i (UInt8.ofNat v) ++ List.replicate (64 - i) 0
theorem fillTo_len {v i : Nat} (h : i ≤ 64) : (fillTo v i).length = 64 := by simp [fillTo]; omega
theorem fillTo_set {v i : Nat} (h : i < 64) : (fillTo v i).set i (UInt8.ofNat v) = fillTo v (i + 1) := by
  unfold fillTo
  rw [List.set_append_right _ _ (by simp), List.length_replicate, Nat.sub_self]
  obtain ⟨k, hk⟩ : ∃ k, 64 - i = k + 1 := ⟨63 - i, by omega⟩
  rw [hk, List.replicate_succ, List.set_cons_zero, show 64 - (i + 1) = k by omega, List.replicate_succ', List.append_assoc]
  rfl
theorem fillB_len (v : Nat) : (fillB v).length = 64 := by simp [fillB]
theorem fillTo_end (v : Nat) : fillTo v 64 = fillB v := by simp [fillTo, fillB]
theorem fillTo_zero : fillTo 0 0 = fillB 0 := rfl
theorem cell_set (l : Bk) (i : Nat) (v : Nat) (hv : v ≤ 255) : (bkC l).toArray.setIfInBounds i (.int .u8 (v : Int)) = (bkC (l.set i (UInt8.ofNat v))).toArray := by
  have : Go.Extern.Stop.cell (UInt8.ofNat v) = .int .u8 (v : Int) := by
    simp only [Go.Extern.Stop.cell]
    congr 1
    simp [UInt8.toNat_ofNat']
    omega
  rw [← this]
  apply Array.toList_inj.1
  simp [bkC, List.map_set]
set_option maxRecDepth 100000 in
set_option maxHeartbeats 1000000 in
theorem fill_any (v : Nat) (hv : v ≤ 255) (w : World) : Calls Tryz.prog 50 #[.int .i64 (v : Int)] w fun e w' => e = .returned (.agg (bkC (fillB v)).toArray) ∧ Below w.heap.size w w' := by
  obtain ⟨Z, hZ⟩ : ∃ Z, Z = zB := ⟨_, rfl⟩
  have hZl : Z.length = 64 := by rw [hZ]; rfl
  have HZ := Lib.hid (And.intro hZ (allocZ_run Z hZ))
  clear hZ
  obtain ⟨w1, hw1⟩ : ∃ w1, w1 = (w.alloc (.cells (bkC Z).toArray 23)).alloc (.cells (bkC Z).toArray 23) := ⟨_, rfl⟩
  have g0 : w1.heap[w.heap.size]? = some (.cells (bkC Z).toArray 23 (0, 0)) := by rw [hw1]; exact (Below.heap_alloc _ _ _ (by simp)).trans (heap_alloc_last w _ rfl)
  have g1 : w1.heap[w.heap.size + 1]? = some (.cells (bkC Z).toArray 23 (0, 0)) := by rw [hw1]; exact heap_alloc_last _ _ (by simp)
  have hb1 : Below w.heap.size w w1 := by rw [hw1]; exact ((Below.refl _ w).alloc (Nat.le_refl _) _).alloc (by simp) _
  have H := Lib.hid (And.intro g0 (And.intro g1 hb1))
  have HW := Lib.hid hw1
  clear g0 g1 hb1 hw1
  go_enter Tryz.func50, Tryz.ntmps50
  go_wp2_with (first
    | (refine wpList_allocZ rfl _ rfl _ HZ.out.2 ?_)
    | fail)
  rw [← HW.out]
  have hlt : w.heap.size + 1 < w1.heap.size := lt_of_block H.out.2.1
  go_loopw [4] (fun i wr => ∃ k : Nat, k ≤ 64 ∧ i = .int .i64 (k : Int) ∧ (v = 0 → k = 0) ∧ wr.heap[w.heap.size + 1]? = some (.cells (bkC (fillTo v k)).toArray 23 (0, 0)) ∧ Upd (fun j => j = w.heap.size + 1) w1 wr)
    (fun i _ => 64 - (intOf i).toNat)
  case atStart =>
    refine ⟨0, by omega, rfl, fun _ => rfl, ?_, Upd.refl _ _⟩
    rw [H.out.2.1, HZ.out.1]; rfl
  case round =>
    obtain ⟨k, hk, rfl, hk0, hg, hu⟩ := hrel
    by_cases hlt2 : k < 64
    · by_cases hv0 : v = 0
      · have q0 : ((v : Int) == 0) = true := by simpa using hv0
        have q1 : ((v : Int) != 0) = false := by simpa using hv0
        have hk1 := hk0 hv0
        subst hk1
        rw [hv0, fillTo_zero] at hg
        have hu2 : Below w.heap.size w wr := below_upd H.out.2.2 hu (Nat.le_refl _) (fun k h => by omega)
        have g0 := (hu.block w.heap.size (by omega) (by omega)).trans H.out.1
        have hth := there64 g0 (by rw [bkC_len]; exact hZl)
        obtain ⟨y, hy⟩ : ∃ y, y = fillB 0 := ⟨_, rfl⟩
        rw [← hy] at hg
        have hyl : y.length = 64 := by rw [hy]; exact fillB_len 0
        have r1 := range_of_block hg
        have HX := Lib.hid (And.intro (show y = fillB v by rw [hv0]; exact hy) hu2)
        clear hy hg hu hu2 g0 hk0 hv0 hk
        go_wp2_with (first
          | (refine wpList_load_mid rfl _ _ rfl _ _ rfl _ _ r1 Tryz.underlying23 rfl (sizeBk y hyl) ?_)
          | (refine wpList_store_mid rfl _ _ _ rfl _ _ (bkC y).toArray rfl rfl (by rw [bkC_size _ hyl]; exact hth) (by rw [bkC_size _ hyl]; exact sizeBk') (all_oneCell_toArray (bkC_one _)) ?_)
          | fail)
        refine bodyPost_ret (results_mid1 rfl _ _ w.heap.size 0 (bkC y) _ rfl (World.rangeAt_setCells_same _ _ _ _ (by rw [bkC_len, hyl]; exact hth)) Tryz.underlying23 rfl (sizeBk y hyl)) rfl ?_
        rw [← HX.out.1]
        exact ⟨rfl, below_upd HX.out.2 (upd_row _ _ _ _) (Nat.le_refl _) (fun k h => by omega)⟩
      · have q0 : ((v : Int) == 0) = false := by simpa using hv0
        have q1 : ((v : Int) != 0) = true := by simpa using hv0
        have c1 := cell_of_block hg k
        have f1 := frozen_of_block hg k
        have hcs : ∃ u, (bkC (fillTo v k)).toArray[k]? = some u := by
          rw [Array.getElem?_eq_getElem (by rw [List.size_toArray, bkC_len, fillTo_len (by omega)]; exact hlt2)]; exact ⟨_, rfl⟩
        obtain ⟨u, hu0⟩ := hcs
        rw [hu0] at c1
        have hS := heap_setCell_same hg k (.int .u8 (v : Int))
        rw [cell_set _ _ _ hv, fillTo_set hlt2] at hS
        have hU := hu.trans (upd_setCell wr (w.heap.size + 1) k (.int .u8 (v : Int)))
        have HS := Lib.hid (And.intro hS hU)
        have k0 : (0 : Int) ≤ (k : Int) := by omega
        have k1 : (k : Int) < 64 := by omega
        have v1 : (v : Int) < 256 := by omega
        have hv1 := Lib.hid hv0
        clear hS hU hg hu hu0 hk0 hv0
        go_wp2
        go_roundw
        case rel => exact ⟨k + 1, by omega, by go_num, fun e => absurd e hv1.out, HS.out.1, HS.out.2⟩
        case measure => simp [intOf]; omega
    · obtain rfl : k = 64 := by omega
      have hu2 : Below w.heap.size w wr := below_upd H.out.2.2 hu (Nat.le_refl _) (fun k h => by omega)
      have g0 := (hu.block w.heap.size (by omega) (by omega)).trans H.out.1
      have hth := there64 g0 (by rw [bkC_len]; exact hZl)
      rw [fillTo_end] at hg
      obtain ⟨y, hy⟩ : ∃ y, y = fillB v := ⟨_, rfl⟩
      rw [← hy] at hg
      have hyl : y.length = 64 := by rw [hy]; exact fillB_len v
      have r1 := range_of_block hg
      have HX := Lib.hid (And.intro hy hu2)
      clear hy hg hu hu2 g0 hk0 hk
      go_wp2_with (first
        | (refine wpList_load_mid rfl _ _ rfl _ _ rfl _ _ r1 Tryz.underlying23 rfl (sizeBk y hyl) ?_)
        | (refine wpList_store_mid rfl _ _ _ rfl _ _ (bkC y).toArray rfl rfl (by rw [bkC_size _ hyl]; exact hth) (by rw [bkC_size _ hyl]; exact sizeBk') (all_oneCell_toArray (bkC_one _)) ?_)
        | fail)
      refine bodyPost_ret (results_mid1 rfl _ _ w.heap.size 0 (bkC y) _ rfl (World.rangeAt_setCells_same _ _ _ _ (by rw [bkC_len, hyl]; exact hth)) Tryz.underlying23 rfl (sizeBk y hyl)) rfl ?_
      rw [← HX.out.1]
      exact ⟨rfl, below_upd HX.out.2 (upd_row _ _ _ _) (Nat.le_refl _) (fun k h => by omega)⟩
def smN (bl sl jo : Nat) : CaN := ⟨7, bl, sl, jo, (sl - 1) / 4 + 1, 2, 3⟩
set_option maxRecDepth 100000 in
set_option maxHeartbeats 2000000 in
theorem small_any (bl sl jo : Nat) (hs1 : 1 ≤ sl) (hs2 : sl ≤ 100) (w : World) : Calls Tryz.prog 15 #[.int .i64 (bl : Int), .int .i64 (sl : Int), .int .i64 (jo : Int)] w fun e w' => e = .returned (.agg (smN bl sl jo).C.toArray) ∧ Below w.heap.size w w' := by
  obtain ⟨pa, hpa⟩ : ∃ pa, pa = (sl - 1) / 4 + 1 := ⟨_, rfl⟩
  have HN : Hid (∀ w, Calls Tryz.prog 56 #[.int .i64 (sl : Int)] w fun e w' => e = .returned (.int .i64 (pa : Int)) ∧ w = w') := by
    intro w; rw [hpa]; exact need_any sl hs1 (by omega) w
  have HC : Hid ((smN bl sl jo).C = superC 7 (bl : Int) (sl : Int) (jo : Int) (pa : Int) 2 3) := by
    show _ = _
    unfold smN CaN.C
    rw [← hpa]
    rfl
  rw [HC.out]
  clear hpa
  obtain ⟨L, hL⟩ : ∃ L, L = superC 7 (bl : Int) (sl : Int) (jo : Int) (pa : Int) 2 3 := ⟨_, rfl⟩
  have h1 : ∀ v ∈ L, v.oneCell' = true := by rw [hL]; exact superC_one _ _ _ _ _ _ _
  have h7 : L.length = 7 := by rw [hL]; rfl
  have hi : (Tryz.prog.info? 34).map (·.size) = some L.length := by rw [h7]; exact infoSup
  have HI := Lib.hid (And.intro h7 (And.intro hi h1))
  clear h7 hi h1
  replace hL := Lib.hid hL
  rcases (show sl = 1 ∨ 2 ≤ sl by omega) with rfl | h2
  all_goals
    (try simp only [Int.natCast_one] at *)
    go_enter Tryz.func15, Tryz.ntmps15
    go_wp2_with (first
      | (go_at_call 56; refine (HN.out _).mono ?_; rintro e w' ⟨rfl, rfl⟩)
      | (refine wpList_store_new rfl _ _ _ rfl _ _ L rfl (by rw [hL.out]; rfl) (by rw [HI.out.1]; rfl) HI.out.2.1 HI.out.2.2 ?_)
      | fail)
    exact bodyPost_ret (results_mid1 rfl _ _ w.heap.size 0 L _ rfl (range_of_block (heap_alloc_last w _ rfl)) Tryz.underlying34 rfl HI.out.2.1) rfl ⟨by rw [hL.out], (Below.refl _ w).alloc (Nat.le_refl _) _⟩
end Go.Proofs.YtnadilfobmgebaaGreatDoor
