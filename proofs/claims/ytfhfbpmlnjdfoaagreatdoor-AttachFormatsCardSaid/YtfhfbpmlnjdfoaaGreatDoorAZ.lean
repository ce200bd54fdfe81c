/- The chapter's example of layer 19. -/
import Derived.Test.YtfhfbpmlnjdfoaaGreatDoorA36
import Derived.Test.YtfhfbpmlnjdfoaaGreatDoorAF
import Derived.Test.YtfhfbpmlnjdfoaaGreatDoorA40
namespace Go.Proofs.YtfhfbpmlnjdfoaaGreatDoor
open Go Go.RowKit
theorem okS_zero : okS zB = false := by kernel_rfl
theorem cdS_zero : cdS zB = 13 := by kernel_rfl
theorem smN_ok9 : (smN 9 2 8).Ok := by constructor <;> simp only [smN, CaN.size] <;> omega
theorem curB_rep {k s : Nat} (h : s < k) : curB (List.replicate k zB) [] s = zB := by
  show (List.replicate k zB).getD s zB = zB
  rw [List.getD_eq_getElem?_getD, List.getElem?_replicate, if_pos h]; rfl
set_option maxRecDepth 100000 in
set_option maxHeartbeats 2000000 in
theorem awake19 (w : World) (nib : Nib w) (tur : Tur w) : Calls Tryz.prog 11 #[] w fun e w' => e = .returned (.bool true) ∧ Below w.heap.size w w' := by
  have HS := Lib.hid (small_any 9 2 8 (by omega) (by omega) w)
  have HN := Lib.hid (And.intro nib tur)
  obtain ⟨n, hn⟩ : ∃ n, n = smN 9 2 8 := ⟨_, rfl⟩
  have hok : n.Ok := by rw [hn]; exact smN_ok9
  have hm : mayS n.I = true := CaN.may hok (by rw [hn]; show 7 ≤ _; decide)
  have hc : (pos ((caS0 n 0 (0 + 1) (fmtF n (List.replicate n.size zB) []) [] [] (List.replicate n.bl zB) [] []).ckpt n).1.st 0).length = 2 := by
    rw [ckpt_new rfl rfl rfl, hn]
    kernel_rfl
  rw [← hn] at HS
  obtain ⟨U, hU⟩ : ∃ U, U = n.C := ⟨_, rfl⟩
  rw [← hU] at HS
  have hUl : U.length = 7 := by rw [hU]; rfl
  have hU1 : ∀ v ∈ U, v.oneCell' = true := by rw [hU]; exact n.C_one
  have hsU : (Tryz.prog.info? 40).map (·.size) = some U.length := by rw [hU]; exact infoSup
  have H := Lib.hid (And.intro hok (And.intro hm (And.intro hc hU)))
  clear nib tur hok hm hc hU hn
  go_enter Tryz.func11, Tryz.ntmps11
  go_wp2_with fail
  refine HS.out.mono ?_
  rintro e w1 ⟨rfl, hb1⟩
  obtain ⟨w2, hw2⟩ : ∃ w2, w2 = w1.alloc (.cells U.toArray 40) := ⟨_, rfl⟩
  have hu1 : Upd (fun _ => False) w w1 := Upd.of_below hb1
  have hu2 : Upd (fun _ => False) w1 w2 := by rw [hw2]; exact (Upd.refl _ w1).alloc _
  have U2 := hu1.trans hu2
  have g2 : w2.heap[w1.heap.size]? = some (.cells U.toArray 40 (0, 0)) := by rw [hw2]; exact heap_alloc_last w1 _ rfl
  have r2 := range_of_block g2
  have hdv := devs_ok n (n.id : Int) H.out.1 w2 (HN.out.1.keep U2 (fun h => h)) (HN.out.2.keep U2 (fun h => h))
  rw [show superC n.id n.bl n.sl n.jo n.pa n.lo n.ba = U from H.out.2.2.2.symm] at hdv
  have HD := Lib.hid hdv
  obtain ⟨sb, hsb⟩ : ∃ sb, sb = w1.heap.size := ⟨_, rfl⟩
  have H2 := Lib.hid (And.intro hw2 (And.intro U2 (And.intro g2 hsb)))
  rw [hw2] at r2
  clear hb1 hu1 hu2 U2 g2 hw2 hdv HS
  go_wp2_with (first
    | (refine wpList_store_new rfl _ _ _ rfl _ _ U rfl rfl (by rw [hUl]; rfl) hsU hU1 ?_)
    | (refine wpList_load_mid rfl _ _ rfl _ _ rfl _ _ r2 Tryz.underlying40 rfl hsU ?_)
    | fail)
  rw [← H2.out.1, ← hsb]
  refine HD.out.mono ?_
  rintro e w3 ⟨own, ssd, back, rfl, D3, hb3, ho3⟩
  have g3 := (Upd.of_below (S := fun _ => False) hb3).blockv H2.out.2.2.1
  rw [← hsb] at g3
  have o3 : own sb = 0 := ho3 _ (by rw [hsb]; exact lt_of_block H2.out.2.2.1)
  have hz : n.size ≤ 4096 ∧ 1 ≤ n.size := ⟨H.out.1.z, by unfold CaN.size; omega⟩
  have hno := aattach_no D3 n H.out.1 (by rw [List.length_replicate]; omega) (fun h => by rw [curB_rep (by omega), okS_zero] at h; cases h) 13 (by unfold supR; rw [curB_rep (by omega), okS_zero, if_neg (by simp), cdS_zero]) (by decide)
  have HA := Lib.hid hno
  have H3 := Lib.hid (And.intro D3 (And.intro (H2.out.2.1.trans (Upd.of_below hb3)) (And.intro g3 (And.intro o3 (fun j (hj : j < w.heap.size) => ho3 j (Nat.lt_of_lt_of_le hj H2.out.2.1.size))))))
  clear D3 hb3 ho3 g3 o3 hz hno r2 HD hsb
  go_wp2_with fail
  refine HA.out.mono ?_
  rintro e w4 ⟨rfl, own4, D4, d4⟩
  obtain ⟨w5, hw5⟩ : ∃ w5, w5 = w4.alloc (.cells #[.pointer none, .pointer none, .pointer none] 67) := ⟨_, rfl⟩
  have hu5 : Upd (fun _ => False) w4 w5 := by rw [hw5]; exact (Upd.refl _ w4).alloc _
  have D5 := D4.new hu5
  have d5 := d4.trans (D4.didNew hu5)
  have g5 := d5.zero H3.out.2.2.1 H3.out.2.2.2.1
  have r5 := range_of_block g5.1
  have hf := aformat D5.open2 (fun j hj => .inr hj) D5.back D5.nib D5.on2 n H.out.1 H.out.2.1 (by rw [List.length_replicate]) (by rw [List.length_replicate]) (Nat.zero_le _)
  rw [← H.out.2.2.2] at hf
  have HF := Lib.hid hf
  have H5 := Lib.hid (And.intro hw5 (And.intro D5 (And.intro d5 g5)))
  rw [hw5] at r5
  clear D4 d4 hu5 D5 d5 g5 hf hw5 HA
  go_wp2_with (first
    | (refine wpList_load_mid rfl _ _ rfl _ _ rfl _ _ r5 Tryz.underlying40 rfl hsU ?_)
    | fail)
  rw [← H5.out.1]
  refine HF.out.mono ?_
  rintro e w6 ⟨rfl, hd6, hu6⟩
  have D6 := H5.out.2.1.turn2 hu6 hd6
  have d6 := H5.out.2.2.1.trans (H5.out.2.1.did2 hu6)
  obtain ⟨own6, hown6⟩ : ∃ own6, own6 = grow own4 2 w5.heap.size w6.heap.size := ⟨_, rfl⟩
  rw [← hown6] at D6 d6
  have HA := Lib.hid (aattach_emp D6 (fmt_emp (O := []) H.out.1 H.out.2.1 (by rw [List.length_replicate])) (by rw [List.length_replicate]))
  have H6 := Lib.hid (And.intro D6 d6)
  clear hd6 hu6 D6 d6 hown6 HF r5
  go_wp2_with fail
  refine HA.out.mono ?_
  rintro e w7 ⟨c, p, own7, li, lc, lf, rfl, hca, hp1, hp2, d7, -⟩
  obtain ⟨w8, hw8⟩ : ∃ w8, w8 = w7.alloc (.cells #[ptr li, ptr lc, ptr lf] 67) := ⟨_, rfl⟩
  have hu8 : Upd (fun _ => False) w7 w8 := by rw [hw8]; exact (Upd.refl _ w7).alloc _
  have hca8 := hca.new hu8
  have hct := ca_ccount hca8 0
  rw [H.out.2.2.1] at hct
  have HC := Lib.hid hct
  have H8 := Lib.hid (And.intro hw8 ((H6.out.2.trans d7).trans (hca.didNew hu8)))
  clear hca hp1 hp2 d7 hu8 hca8 hct HA hw8
  go_wp2_with fail
  try rw [← H8.out.1]
  refine HC.out.mono ?_
  rintro e w9 ⟨rfl, own9, h9, d9⟩
  have HE := Lib.hid (H8.out.2.trans d9)
  clear h9 d9 HC
  go_wp2
  go_ret
  refine ⟨rfl, ?_⟩
  have hb := Upd.below H3.out.2.1
  exact below_upd hb HE.out.upd (Nat.le_refl _) (fun k hk => Nat.le_of_not_lt fun hlt => hk.1 (H3.out.2.2.2.2 k hlt))
end Go.Proofs.YtfhfbpmlnjdfoaaGreatDoor
