/- That devices that were formatted are a cache without blocks, and which cannot be formatted: the walk. That devices that were formatted are a cache without blocks, for any superblock and blocks. -/
import Derived.Test.YtfhfbpmlnjdfoaaGreatDoorYB
import Derived.Great.BuildSlice
namespace Go.Proofs.YtfhfbpmlnjdfoaaGreatDoor.attachFormats
open Go Go.RowKit Go.Proofs.YtfhfbpmlnjdfoaaGreatDoor
set_option maxRecDepth 100000 in
set_option maxHeartbeats 1000000 in
theorem walk_no {id bl sl jo pa lo ba : Int} (hA : ¬ AdmP bl sl jo pa lo ba) (v : Value) (w : World) (nib : Nib w) (tur : Tur w) :
    Calls Tryz.prog 4 #[.agg (superC id bl sl jo pa lo ba).toArray, v] w fun e w' => e = .returned (.bool true) ∧ Below w.heap.size w w' := by
  obtain ⟨U, hU⟩ : ∃ U, U = superC id bl sl jo pa lo ba := ⟨_, rfl⟩
  obtain ⟨Z, hZ⟩ : ∃ Z : List Value, Z = [.int .i64 0, .int .i64 0, .int .i64 0, .int .i64 0, .int .i64 0, .int .i64 0, .int .i64 0] := ⟨_, rfl⟩
  have hPl : ∀ W, Calls Tryz.prog 14 #[.agg U.toArray] W fun e w' => e = .returned (.tuple #[.agg Z.toArray, .int .i64 24]) ∧ Below W.heap.size W w' := fun W => by
    rw [hU, hZ]; exact plan_bad hA id W
  have hF1 : ∀ b bb W, Calls Tryz.prog 16 #[.agg U.toArray, ptr b, ptr bb] W (FmtNo W 24) := fun b bb W => by rw [hU]; exact afmt_plan hA b bb W
  have hF2 : ∀ v W, Calls Tryz.prog 16 #[.agg U.toArray, .pointer none, v] W (FmtNo W 2) := fun v W => by rw [hU]; exact afmt_nil _ _ _ _ _ _ _ v W
  have HP := Lib.hid (And.intro hPl (And.intro hF1 hF2))
  have hsU : (Tryz.prog.info? 40).map (·.size) = some U.length := by rw [hU]; exact infoSup
  have hZl : Z.length = 7 := by rw [hZ]; rfl
  have hsZ : (Tryz.prog.info? 43).map (·.size) = some Z.length := by rw [hZl]; exact infoLay
  have hZ1 : ∀ v ∈ Z, v.oneCell' = true := by rw [hZ]; exact List.all_eq_true.1 (by simp [Value.oneCell'])
  rw [← hU]
  clear hU hZ hA hPl hF1 hF2
  obtain ⟨w1, hw1⟩ : ∃ w1, w1 = w.alloc (.cells U.toArray 40) := ⟨_, rfl⟩
  have hu1 : Upd (fun _ => False) w w1 := by rw [hw1]; exact (Upd.refl _ w).alloc _
  have g1 : w1.heap[w.heap.size]? = some (.cells U.toArray 40 (0, 0)) := by rw [hw1]; exact heap_alloc_last w _ rfl
  have rU := range_of_block g1
  have H1 := Lib.hid (And.intro hw1 (And.intro hu1 (And.intro g1 (And.intro nib tur))))
  rw [hw1] at rU
  clear hu1 g1 hw1 nib tur
  go_enter Tryz.func4, Tryz.ntmps4
  go_wp2_with (first
    | (refine wpList_load_mid rfl _ _ rfl _ _ rfl _ _ rU Tryz.underlying40 rfl hsU ?_)
    | fail)
  rw [← H1.out.1]
  refine (HP.out.1 _).mono ?_
  rintro e w2 ⟨rfl, hb2⟩
  obtain ⟨w3, hw3⟩ : ∃ w3, w3 = w2.alloc (.cells Z.toArray 43) := ⟨_, rfl⟩
  have hu2 : Upd (fun _ => False) w1 w2 := Upd.of_below hb2
  have hu3 : Upd (fun _ => False) w2 w3 := by rw [hw3]; exact (Upd.refl _ w2).alloc _
  have U3 := hu2.trans hu3
  have hD := dnew_ok 5 (by decide) (by decide) w3
  rw [show ((5 : Nat) : Int) = 5 from rfl] at hD
  have H3 := Lib.hid (And.intro hw3 (And.intro U3 hD))
  clear hb2 hu2 hu3 U3 hD hw3 rU
  go_wp2_with (first
    | (refine wpList_store_new rfl _ _ _ rfl _ _ Z rfl rfl (by rw [hZl]; rfl) hsZ hZ1 ?_)
    | fail)
  rw [← H3.out.1]
  refine H3.out.2.2.mono ?_
  rintro e w4 ⟨b, rfl, -, -, hb4⟩
  have U4 := H3.out.2.1.trans (Upd.of_below (S := fun _ => False) hb4)
  have rU := range_of_block (U4.blockv H1.out.2.2.1)
  have H4 := Lib.hid U4
  clear hb4 U4
  go_wp2_with (first
    | (refine wpList_load_mid rfl _ _ rfl _ _ rfl _ _ rU Tryz.underlying40 rfl hsU ?_)
    | fail)
  refine (HP.out.2.1 _ _ _).mono ?_
  rintro e w5 ⟨rfl, hu5⟩
  have U5 := H4.out.trans hu5
  have rU := range_of_block (U5.blockv H1.out.2.2.1)
  have H5 := Lib.hid U5
  clear hu5 U5
  go_wp2_with (first
    | (refine wpList_load_midW (by rfl) _ _ rfl _ _ rfl _ _ rU Tryz.underlying40 rfl hsU ?_)
    | fail)
  refine (HP.out.2.2 _ _).mono ?_
  rintro e w6 ⟨rfl, hu6⟩
  have U6 := H1.out.2.1.trans (H5.out.trans hu6)
  have HA := Lib.hid (awake19 w6 (H1.out.2.2.2.1.keep U6 (fun h => h)) (H1.out.2.2.2.2.keep U6 (fun h => h)))
  have H6 := Lib.hid U6
  clear hu6 U6 rU
  go_wp2_with fail
  refine HA.out.mono ?_
  rintro e w7 ⟨rfl, hb7⟩
  have HE := Lib.hid (Upd.below (H6.out.trans (Upd.of_below (S := fun _ => False) hb7)))
  clear hb7 HA
  go_wp2
  go_ret
  exact ⟨rfl, HE.out⟩
theorem bk_row : ∀ {L : List Bk}, (∀ b ∈ L, b.length = 64) → ∀ {i : Nat} (hi : i < L.length) (j : Nat) (u : Value), (bkC L[i])[j]? = some u → (L.flatMap bkC)[i * 64 + j]? = some u
  | b :: L, h, 0, _, j, u, hj => by
    have hj' := (List.getElem?_eq_some_iff.1 hj).1
    rw [List.flatMap_cons, Nat.zero_mul, Nat.zero_add]
    exact (List.getElem?_append_left (l₁ := bkC b) hj').trans hj
  | b :: L, h, i + 1, hi, j, u, hj => by
    have hb : (bkC b).length = 64 := by rw [bkC_len]; exact h b List.mem_cons_self
    rw [List.flatMap_cons, List.getElem?_append_right (by rw [hb]; omega), hb, show (i + 1) * 64 + j - 64 = i * 64 + j by omega]
    exact bk_row (fun b hb => h b (List.mem_cons_of_mem _ hb)) (by simpa using hi) j u (by simpa using hj)
structure Sx (own : Nat → Nat) (w : World) (sb lb : Nat) (n : CaN) (id : Int) : Prop where
  s : w.heap[sb]? = some (.cells (superC id n.bl n.sl n.jo n.pa n.lo n.ba).toArray 40 (0, 0)) ∧ own sb = 0
  l : w.heap[lb]? = some (.cells (layC n.sl n.jo n.pa n.lo).toArray 43 (0, 0)) ∧ own lb = 0
theorem Sx.did {own own' : Nat → Nat} {w w' : World} {sb lb : Nat} {n : CaN} {id : Int} (h : Sx own w sb lb n id) (d : Did own own' w w') : Sx own' w' sb lb n id := ⟨d.zero h.s.1 h.s.2, d.zero h.l.1 h.l.2⟩
theorem Sx.size {own : Nat → Nat} {w : World} {sb lb : Nat} {n : CaN} {id : Int} (h : Sx own w sb lb n id) : w.cell? ⟨lb, 6, none⟩ = some (.int .i64 (n.size : Int)) := by
  rw [cell_of_block h.l.1]; simp [layC, CaN.size]
theorem C_eq {n : CaN} {U : List Value} (hU : U = n.C) (i : Nat) (h : i < U.length) (W : World) : (Op.equalIn 9999 3 U[i] U[i]).run Tryz.prog W = .ok true W := by
  have hm : U[i] ∈ n.C := by rw [← hU]; exact List.getElem_mem h
  have : ∃ k, U[i] = .int .i64 k := by
    simp only [CaN.C, List.mem_cons, List.not_mem_nil, or_false] at hm
    rcases hm with e | e | e | e | e | e | e <;> exact ⟨_, e⟩
  obtain ⟨k, e⟩ := this
  rw [e]
  have := run_equalIn_int (P := Tryz.prog) W 9998 3 .i64 .i64 k k Tryz.underlying3
  simpa using this
def Hx (own : Nat → Nat) (w : World) (sb xb gb : Nat) (U L : List Value) : Prop :=
  (w.heap[sb]? = some (.cells U.toArray 40 (0, 0)) ∧ own sb = 0) ∧ (w.heap[xb]? = some (.cells U.toArray 40 (0, 0)) ∧ own xb = 0) ∧ (w.heap[gb]? = some (.cells L.toArray 67 (0, 0)) ∧ own gb = 0)
theorem Hx.did {own own' : Nat → Nat} {w w' : World} {sb xb gb : Nat} {U L : List Value} (h : Hx own w sb xb gb U L) (d : Did own own' w w') : Hx own' w' sb xb gb U L := ⟨d.zero h.1.1 h.1.2, d.zero h.2.1.1 h.2.1.2, d.zero h.2.2.1 h.2.2.2⟩
def Held (n : CaN) (sb xb gb : Nat) (U L : List Value) (w : World) : Prop := w.rangeAt xb 0 U ∧ w.rangeAt sb 0 U ∧ w.rangeAt gb 0 L ∧ w.cell? ⟨sb, 2, none⟩ = some (.int .i64 (n.sl : Int))
theorem Hx.held {own : Nat → Nat} {w : World} {sb xb gb : Nat} {n : CaN} {U L : List Value} (h : Hx own w sb xb gb U L) (hU : U = n.C) : Held n sb xb gb U L w := ⟨range_of_block h.2.1.1, range_of_block h.1.1, range_of_block h.2.2.1, by rw [cell_of_block h.1.1, hU]; rfl⟩
theorem empA_same (n : CaN) (wh sq : Nat) (F : List Bk) (O : List (Nat × Bk)) (G : List Bk) (Q : List (Nat × Bk)) : { empA n wh sq F O G Q with dF := (empA n wh sq F O G Q).dF, dO := (empA n wh sq F O G Q).dO, dP := [] } = empA n wh sq F O G Q := by
  rw [empA_eq]; rfl
set_option maxRecDepth 100000 in
set_option maxHeartbeats 2000000 in
theorem walk_yes (n : CaN) (id : Int) (hid : mayS [id, n.bl, n.sl, n.jo, n.pa, n.lo, n.ba] = true → id = (n.id : Int)) (hok : n.Ok) {l : List Bk} {v : Value} (w : World) (hl : Rd w 64 v l.length (l.flatMap bkC)) (h64 : ∀ b ∈ l, b.length = 64) (nib : Nib w) (tur : Tur w) :
    Calls Tryz.prog 4 #[.agg (superC id n.bl n.sl n.jo n.pa n.lo n.ba).toArray, v] w fun e w' => e = .returned (.bool true) ∧ Below w.heap.size w w' := by
  obtain ⟨ao, cap, rfl⟩ := hl.nil_iff
  obtain ⟨U, hU⟩ : ∃ U, U = superC id n.bl n.sl n.jo n.pa n.lo n.ba := ⟨_, rfl⟩
  obtain ⟨V, hV⟩ : ∃ V, V = layC n.sl n.jo n.pa n.lo := ⟨_, rfl⟩
  have hPl : ∀ W, Calls Tryz.prog 14 #[.agg U.toArray] W fun e w' => e = .returned (.tuple #[.agg V.toArray, .int .i64 0]) ∧ Below W.heap.size W w' := fun W => by
    rw [hU, hV]
    obtain ⟨b1, b2, s1, s2, j1, j2, l1, l2, a1, a2, p1, p2, z⟩ := hok
    exact plan_ok id n.bl n.sl n.jo n.pa n.lo n.ba b1 b2 s1 s2 j1 j2 l1 l2 a1 a2 p1 p2 z W
  have hDv : ∀ W, Nib W → Tur W → Calls Tryz.prog 17 #[.agg U.toArray] W (DevsOut W n) := fun W h1 h2 => by rw [hU]; exact devs_ok n id hok W h1 h2
  have HP := Lib.hid (And.intro hPl hDv)
  have hsU : (Tryz.prog.info? 40).map (·.size) = some U.length := by rw [hU]; exact infoSup
  have hVl : V.length = 7 := by rw [hV]; rfl
  have hsV : (Tryz.prog.info? 43).map (·.size) = some V.length := by rw [hVl]; exact infoLay
  have hV1 : ∀ v ∈ V, v.oneCell' = true := by rw [hV]; exact layC_mem _ _ _ _
  rw [← hU]
  obtain ⟨w1, hw1⟩ : ∃ w1, w1 = w.alloc (.cells U.toArray 40) := ⟨_, rfl⟩
  have hu1 : Upd (fun _ => False) w w1 := by rw [hw1]; exact (Upd.refl _ w).alloc _
  have g1 : w1.heap[w.heap.size]? = some (.cells U.toArray 40 (0, 0)) := by rw [hw1]; exact heap_alloc_last w _ rfl
  have rU := range_of_block g1
  have hlm := hl.2.1
  have H := Lib.hid (And.intro hok (And.intro hl (And.intro h64 (And.intro nib (And.intro tur (And.intro hU hV))))))
  have H1 := Lib.hid (And.intro hw1 (And.intro hu1 g1))
  rw [hw1] at rU
  clear hok hl h64 nib tur hU hV hPl hDv hu1 g1 hw1
  go_enter Tryz.func4, Tryz.ntmps4
  go_wp2_with (first
    | (refine wpList_load_mid rfl _ _ rfl _ _ rfl _ _ rU Tryz.underlying40 rfl hsU ?_)
    | fail)
  rw [← H1.out.1]
  refine (HP.out.1 _).mono ?_
  rintro e w2 ⟨rfl, hb2⟩
  obtain ⟨w3, hw3⟩ : ∃ w3, w3 = w2.alloc (.cells V.toArray 43) := ⟨_, rfl⟩
  have hu2 : Upd (fun _ => False) w1 w2 := Upd.of_below hb2
  have hu3 : Upd (fun _ => False) w2 w3 := by rw [hw3]; exact (Upd.refl _ w2).alloc _
  have U3 := hu2.trans hu3
  have g3 := U3.blockv H1.out.2.2
  have gl3 : w3.heap[w2.heap.size]? = some (.cells V.toArray 43 (0, 0)) := by rw [hw3]; exact heap_alloc_last w2 _ rfl
  have rU := range_of_block g3
  have U03 := H1.out.2.1.trans U3
  have H3 := Lib.hid (And.intro hw3 (And.intro U03 (And.intro g3 gl3)))
  rw [hw3] at rU
  clear hb2 hu2 hu3 U3 U03 hw3 g3 gl3
  go_wp2_with (first
    | (refine wpList_store_new rfl _ _ _ rfl _ _ V rfl rfl (by rw [hVl]; rfl) hsV hV1 ?_)
    | (refine wpList_load_mid rfl _ _ rfl _ _ rfl _ _ rU Tryz.underlying40 rfl hsU ?_)
    | fail)
  rw [← H3.out.1]
  refine (HP.out.2 w3 (H.out.2.2.2.1.keep H3.out.2.1 (fun h => h)) (H.out.2.2.2.2.1.keep H3.out.2.1 (fun h => h))).mono ?_
  rintro e w4 ⟨own, ssd, back, rfl, D4, hb4, ho4⟩
  have u34 : Upd (fun _ => False) w3 w4 := Upd.of_below hb4
  obtain ⟨sb, hsb⟩ : ∃ sb, sb = w.heap.size := ⟨_, rfl⟩
  obtain ⟨lb, hlb⟩ : ∃ lb, lb = w2.heap.size := ⟨_, rfl⟩
  have X4 : Sx own w4 sb lb n id := by
    have a := u34.blockv H3.out.2.2.1
    have b := u34.blockv H3.out.2.2.2
    rw [H.out.2.2.2.2.2.1] at a
    rw [H.out.2.2.2.2.2.2] at b
    exact ⟨⟨by rw [hsb]; exact a, by rw [hsb]; exact ho4 _ (lt_of_block H3.out.2.2.1)⟩, ⟨by rw [hlb]; exact b, by rw [hlb]; exact ho4 _ (lt_of_block H3.out.2.2.2)⟩⟩
  have U4 := H3.out.2.1.trans u34
  have hl4 := H.out.2.1.keep U4 (fun _ _ h => h)
  have hown : ∀ j, j < w.heap.size → own j = 0 := fun j hj => ho4 j (Nat.lt_of_lt_of_le hj H3.out.2.1.size)
  have H4 := Lib.hid (And.intro D4 (And.intro X4 (And.intro U4 (And.intro hl4 hown))))
  rw [← hsb, ← hlb]
  clear D4 hb4 ho4 u34 X4 U4 hl4 hown rU hsb hlb H3 H1
  by_cases hlen : l.length ≤ 20
  rotate_left
  · have k1 : ¬ ((l.length : Int) ≤ 20) := by omega
    have HA := Lib.hid (awake19 w4 H4.out.1.nib H4.out.1.tur)
    have k2 : decide ((20 : Int) < (l.length : Int)) = true := by simp; omega
    go_wp2_with fail
    refine HA.out.mono ?_
    rintro e w7 ⟨rfl, hb7⟩
    have HE := Lib.hid (Upd.below (H4.out.2.2.1.trans (Upd.of_below (S := fun _ => False) hb7)))
    clear hb7 HA
    go_wp2
    go_ret
    exact ⟨rfl, HE.out⟩
  have k2 : decide ((20 : Int) < (l.length : Int)) = false := by simp; omega
  go_wp2_with fail
  go_loopg [11] l.length (fun gk s11 wr => ∃ (i : Nat) (own' : Nat → Nat) (O : List (Nat × Bk)), i + gk = l.length ∧ s11 = .int .i64 (i : Int) ∧ Dvs own' wr ssd back (List.replicate n.size zB) O (List.replicate n.bl zB) [] [] ∧ Did own own' w4 wr ∧ O.length = i)
  case atStart => exact ⟨0, own, [], by omega, rfl, H4.out.1, H4.out.1.didNew (Upd.refl _ _), rfl⟩
  case round =>
    obtain ⟨i, own5, O, hi, rfl, D5, d5, hO⟩ := hrel
    have X5 := H4.out.2.1.did d5
    by_cases hlt : i < l.length
    · obtain ⟨bl, off, cp, e, hbl, hcell⟩ := H.out.2.1.at (by omega)
      cases e
      have hr0 : w.rangeAt bl (off + i * 64) (bkC l[i]) := fun j u hj => by
        have := hcell _ u (bk_row H.out.2.2.1 hlt j u hj)
        rw [← Nat.add_assoc] at this
        exact this
      have hr5 : wr.rangeAt bl (off + i * 64) (bkC l[i]) := d5.upd.range (H4.out.2.2.1.range hr0 (fun h => h)) (fun hs => hs.1 (H4.out.2.2.2.2 bl hbl))
      have c6 := X5.size
      have hsz := H.out.1.z
      have hz1 : 1 ≤ n.size := by unfold CaN.size; omega
      have hx64 : l[i].length = 64 := H.out.2.2.1 _ (List.getElem_mem hlt)
      obtain ⟨x, hx⟩ : ∃ x, x = l[i] := ⟨_, rfl⟩
      rw [← hx] at hr5 hx64
      obtain ⟨z, hz⟩ : ∃ z, z = n.size := ⟨_, rfl⟩
      rw [← hz] at c6
      have k1 : (i : Int) < (l.length : Int) := by omega
      have i0 : (0 : Int) ≤ (i : Int) := by omega
      have i2 : (i : Int) < 20 := by omega
      have z0 : (0 : Int) < (z : Int) := by omega
      have z2 : (z : Int) ≤ 4096 := by omega
      have zn : ((z : Int) == 0) = false := by simp; omega
      have hwv : IntKind.i64.wrap ((i : Int) * 7) = ((i * 7 : Nat) : Int) := (IntWalk.i64_in _ (by omega)).trans (by simp)
      have hrem : Int.tmod ((i : Int) * 7) (z : Int) = (i : Int) * 7 % (z : Int) := Int.tmod_eq_emod_of_nonneg (by omega)
      have hsy := sizeBk x hx64
      have H5 := Lib.hid (And.intro D5 (And.intro d5 (And.intro hO (And.intro hx (And.intro hz (H4.out.2.2.1.range hr0 (fun h => h)))))))
      clear hcell hr0 X5 hsz hz1 hO D5 d5 hx hz
      go_wp2_with fail
      refine wp_region_held_drew (S := fun W => W.cell? ⟨lb, 6, none⟩ = some (.int .i64 (z : Int)) ∧ W.rangeAt bl (off + i * 64) (bkC x)) (by kernel_rfl) (⟨by rw [World.cell?_drew]; exact c6, by rw [World.rangeAt_drew]; exact hr5⟩) (fun hHeld => ?_)
      refine Wl.i [0, 1, 3, 4] ?_; iterate 4 refine Wl.t hHeld ?_
      refine Wl.o ?_
      refine wpAnyH_take (i := 2) (v := .int .i64 ((i * 7 : Nat) : Int)) rfl (by kernel_rfl) (by kernel_rfl) (by kernel_rfl) (fun _ _ _ h => h) (Or.inl ⟨by rfl, ?_⟩) hHeld ?_
      · intro W hSw
        go_simp
      simp only [List.getElem_toArray, List.getElem_cons_succ, List.getElem_cons_zero, Act.put, List.setIfInBounds_toArray, List.set_cons_zero, List.set_cons_succ]
      refine wpAnyH_take (i := 5) (v := .int .i64 ((i * 7 % z : Nat) : Int)) rfl (by kernel_rfl) (by kernel_rfl) (by kernel_rfl) (fun _ _ _ h => h) (Or.inl ⟨by rfl, ?_⟩) hHeld ?_
      · intro W hSw
        go_simp
        omega
      simp only [List.getElem_toArray, List.getElem_cons_succ, List.getElem_cons_zero, Act.put, List.setIfInBounds_toArray, List.set_cons_zero, List.set_cons_succ]
      refine Wl.i [6, 7, 8] ?_; iterate 3 refine Wl.t hHeld ?_
      refine Wl.o ?_
      refine Wl.l 9 (fun w h => h.2) Tryz.underlying54 hsy hHeld ?_
      refine Wl.r 10 (fun K hK => ?_)
      go_simp
      have hud : Upd (fun _ => False) wr wr.drew := (Upd.refl _ wr).drew
      have D6 := H5.out.1.new hud
      have d6 := H5.out.2.1.trans (H5.out.1.didNew hud)
      have hW := dwriteR D6.open2 (fun j hj => .inr hj) (i * 7 % z) (by rw [List.length_replicate, ← H5.out.2.2.2.2.1]; exact Nat.mod_lt _ (by omega)) x hx64 (by have := H5.out.2.2.1; omega)
      refine hW.mono ?_
      rintro e w6 ⟨rfl, hd6, hu6⟩
      have D7 := D6.turn2 hu6 hd6
      have d7 := d6.trans (D6.did2 hu6)
      have X7 := H4.out.2.1.did d7
      have hHeld2 : w6.cell? ⟨lb, 6, none⟩ = some (.int .i64 (z : Int)) ∧ w6.rangeAt bl (off + i * 64) (bkC x) := ⟨by rw [H5.out.2.2.2.2.1]; exact X7.size, by rw [H5.out.2.2.2.1]; exact d7.upd.range H5.out.2.2.2.2.2 (fun hs => hs.1 (H4.out.2.2.2.2 bl hbl))⟩
      have H7 := Lib.hid (And.intro D7 d7)
      refine hK.out _ _ hHeld2 (fun _ => ?_)
      clear hK K hud D6 d6 hW hd6 hu6 D7 d7 X7 hHeld hHeld2
      refine Wl.d ?_
      clear c6 hr5
      go_wp2_with fail
      go_roundg (gk - 1)
      case measure => omega
      case rel => exact ⟨i + 1, _, _, by omega, by go_num, H7.out.1, H7.out.2, by show (O ++ [_]).length = _; rw [List.length_append, H5.out.2.2.1]; rfl⟩
    · have hO20 : O.length ≤ 20 := by omega
      have hi' : i = l.length := by omega
      subst hi'
      have k1 : ¬ ((l.length : Int) < (l.length : Int)) := by omega
      have rU := range_of_block X5.s.1
      rw [← H.out.2.2.2.2.2.1] at rU
      have H5 := Lib.hid (And.intro D5 (And.intro d5 (And.intro X5 hO20)))
      cases hm : mayS [id, n.bl, n.sl, n.jo, n.pa, n.lo, n.ba] with
      | false =>
        have hf := afmt_no D5.ssd D5.back D5.nib id n H.out.1 10 (by decide) (.inl ⟨hm, rfl⟩)
        rw [← H.out.2.2.2.2.2.1] at hf
        have HF := Lib.hid hf
        have HM := Lib.hid hm
        clear hf D5 d5 X5 hO20 hm hO
        go_wp2_with (first
          | (refine wpList_load_mid rfl _ _ rfl _ _ rfl _ _ rU Tryz.underlying40 rfl hsU ?_)
          | fail)
        refine HF.out.mono ?_
        rintro e w6 ⟨rfl, hu6⟩
        have D6 := H5.out.1.new hu6
        have d6 := H5.out.2.1.trans (H5.out.1.didNew hu6)
        have X6 := H4.out.2.1.did d6
        have rU := range_of_block X6.s.1
        rw [← H.out.2.2.2.2.2.1] at rU
        have H6 := Lib.hid (And.intro D6 d6)
        have hp := PutS_any D6.nib (superC id n.bl n.sl n.jo n.pa n.lo n.ba) rfl [id, n.bl, n.sl, n.jo, n.pa, n.lo, n.ba] rfl (fun W => tellS _ _ _ _ _ _ _ W)
        rw [← H.out.2.2.2.2.2.1] at hp
        have HPu := Lib.hid hp
        clear hu6 D6 d6 X6 hp HF
        go_wp2_with (first
          | (refine wpList_load_mid rfl _ _ rfl _ _ rfl _ _ rU Tryz.underlying40 rfl hsU ?_)
          | fail)
        refine HPu.out.mono ?_
        rintro e w7 ⟨h7, hb7⟩
        obtain ⟨h7, -⟩ | ⟨-, rfl⟩ := h7
        · rw [HM.out] at h7; cases h7
        obtain ⟨y, hy, hyl⟩ : ∃ y, y = zB ∧ y.length = 64 := ⟨_, rfl, zB_len⟩
        have hsy := sizeBk y hyl
        obtain ⟨w8, hw8⟩ : ∃ w8, w8 = w7.alloc (.cells (bkC y).toArray 54) := ⟨_, rfl⟩
        have U8 : Upd (fun _ => False) w6 w8 := by rw [hw8]; exact (Upd.of_below hb7).alloc _
        have HA := Lib.hid (awake19 w8 (H6.out.1.nib.keep U8 (fun h => h)) (H6.out.1.tur.keep U8 (fun h => h)))
        have H8 := Lib.hid (And.intro hw8 (H6.out.2.trans (H6.out.1.didNew U8)))
        rw [← hy]
        clear hy hb7 hw8 U8 HPu rU
        go_wp2_with (first
          | (refine wpList_store_new rfl _ _ _ rfl _ _ (bkC y) rfl rfl (by rw [bkC_len, hyl]; rfl) hsy (bkC_one y) ?_)
          | fail)
        rw [← H8.out.1]
        refine HA.out.mono ?_
        rintro e w9 ⟨rfl, hb9⟩
        have hE := below_upd (below_upd (Upd.below H4.out.2.2.1) H8.out.2.upd (Nat.le_refl _) (fun k hk => Nat.le_of_not_lt fun hlt => hk.1 (H4.out.2.2.2.2 k hlt))) (Upd.of_below (S := fun _ => False) hb9) (Nat.le_refl _) (fun k h => h.elim)
        have HE := Lib.hid hE
        clear hb9 HA hE
        go_wp2
        go_ret
        exact ⟨rfl, HE.out⟩
      | true =>
        obtain rfl := hid hm
        have hm' : mayS n.I = true := hm
        have hUC : U = n.C := H.out.2.2.2.2.2.1
        have hf := aformat D5.open2 (fun j hj => .inr hj) D5.back D5.nib D5.on2 n H.out.1 hm' (List.length_replicate ..) (List.length_replicate ..) (by omega : O.length ≤ 50000)
        rw [← hUC] at hf
        have HF := Lib.hid hf
        have HM := Lib.hid (And.intro hm' hUC)
        have hz : n.size ≤ 4096 ∧ 1 ≤ n.size := ⟨H.out.1.z, by unfold CaN.size; omega⟩
        obtain ⟨z, hze⟩ : ∃ z, z = n.size := ⟨_, rfl⟩
        rw [← hze] at hz
        have HZ := Lib.hid hze
        obtain ⟨F, hF⟩ : ∃ F, F = fmtF n (List.replicate n.size zB) O := ⟨_, rfl⟩
        have hE := fmt_emp (n := n) (F := List.replicate n.size zB) (O := O) H.out.1 hm' (List.length_replicate ..)
        rw [← hF] at hE
        have HEm := Lib.hid (And.intro hE (And.intro hF (show F.length = n.size by rw [hF, fmtF_len, List.length_replicate])))
        clear hf D5 d5 X5 hO20 hm hO hm' hUC hze hE hF
        go_wp2_with (first
          | (refine wpList_load_mid rfl _ _ rfl _ _ rfl _ _ rU Tryz.underlying40 rfl hsU ?_)
          | fail)
        refine HF.out.mono ?_
        rintro e w6 ⟨rfl, hd6, hu6⟩
        rw [← HEm.out.2.1] at hd6
        have D6 := H5.out.1.turn2 hu6 hd6
        have d6 := H5.out.2.1.trans (H5.out.1.did2 hu6)
        obtain ⟨own6, hown6⟩ : ∃ own6, own6 = grow own5 2 wr.heap.size w6.heap.size := ⟨_, rfl⟩
        rw [← hown6] at D6 d6
        have X6 := H4.out.2.1.did d6
        have rU := range_of_block X6.s.1
        rw [← H.out.2.2.2.2.2.1] at rU
        have H6 := Lib.hid (And.intro D6 (And.intro d6 X6))
        have hp := PutS_any D6.nib (superC (n.id : Int) n.bl n.sl n.jo n.pa n.lo n.ba) rfl [(n.id : Int), n.bl, n.sl, n.jo, n.pa, n.lo, n.ba] rfl (fun W => tellS _ _ _ _ _ _ _ W)
        rw [← H.out.2.2.2.2.2.1] at hp
        have HPu := Lib.hid hp
        clear hd6 hu6 D6 d6 X6 hp HF hown6
        go_wp2_with (first
          | (refine wpList_load_mid rfl _ _ rfl _ _ rfl _ _ rU Tryz.underlying40 rfl hsU ?_)
          | fail)
        refine HPu.out.mono ?_
        rintro e w7 ⟨h7, hb7⟩
        obtain ⟨-, rfl⟩ | ⟨h7, -⟩ := h7
        rotate_left
        · have h7' : mayS n.I = false := h7
          rw [HM.out.1] at h7'; cases h7'
        obtain ⟨y, hy, hyl⟩ : ∃ y, y = sectS [(n.id : Int), n.bl, n.sl, n.jo, n.pa, n.lo, n.ba] ∧ y.length = 64 := ⟨_, rfl, sectS_len rfl⟩
        have hsy := sizeBk y hyl
        obtain ⟨w8, hw8⟩ : ∃ w8, w8 = w7.alloc (.cells (bkC y).toArray 54) := ⟨_, rfl⟩
        have U8 : Upd (fun _ => False) w6 w8 := by rw [hw8]; exact (Upd.of_below hb7).alloc _
        have D8 := H6.out.1.new U8
        have d8 := H6.out.2.1.trans (H6.out.1.didNew U8)
        have X8 := H4.out.2.1.did d8
        have c6 := X8.size
        rw [← HZ.out] at c6
        have hD := dnew_ok (min 4096 (z + 1)) (by omega) (by omega) w8
        rw [show ((min 4096 (z + 1) : Nat) : Int) = min 4096 ((z : Int) + 1) by omega] at hD
        have HD := Lib.hid hD
        have H8 := Lib.hid (And.intro hw8 (And.intro D8 (And.intro d8 X8)))
        rw [← hy]
        rw [hw8] at c6
        have hwz : IntKind.i64.wrap ((z : Int) + 1) = (z : Int) + 1 := IntWalk.i64_in _ (by omega)
        clear hy hb7 hw8 U8 HPu rU D8 d8 X8 hD
        go_wp2_with (first
          | (refine wpList_store_new rfl _ _ _ rfl _ _ (bkC y) rfl rfl (by rw [bkC_len, hyl]; rfl) hsy (bkC_one y) ?_)
          | fail)
        rw [← H8.out.1]
        refine HD.out.mono ?_
        rintro e w9 ⟨wrong, rfl, hX9, -, hb9⟩
        have hu9 : Upd (fun _ => False) w8 w9 := Upd.of_below hb9
        have D9 := H8.out.2.1.new hu9
        have d9 := H8.out.2.2.1.trans (H8.out.2.1.didNew hu9)
        have X9 := H4.out.2.1.did d9
        have c6 := X9.size
        rw [← HZ.out] at c6
        have rU := range_of_block X9.s.1
        rw [← H.out.2.2.2.2.2.1] at rU
        have hop := dopen D9.ssd
        rw [show (([] : List (Nat × Bk)).length : Int) = 0 from rfl] at hop
        have HO := Lib.hid hop
        have hwr : ∀ (h4 : z < 4096), Calls Tryz.prog 16 #[.agg (superC (n.id : Int) n.bl n.sl n.jo n.pa n.lo n.ba).toArray, ptr wrong, ptr back] w9 (FmtNo w9 22) := fun h4 => by
          refine afmt_no hX9 D9.back D9.nib (n.id : Int) n H.out.1 22 (by decide) (.inr ⟨HM.out.1, ?_⟩)
          unfold matchC
          rw [if_neg]
          rw [List.length_replicate, ← HZ.out]
          omega
        rw [← H.out.2.2.2.2.2.1] at hwr
        have HWr := Lib.hid hwr
        have H9 := Lib.hid (And.intro D9 (And.intro d9 X9))
        clear hX9 hb9 hu9 D9 d9 X9 hop hwr HD
        by_cases h4 : z < 4096
        case' pos =>
          have k5 : (z : Int) < 4096 := by omega
          go_wp2_with fail
          refine HO.out.mono ?_
          rintro e w10 ⟨rfl, rfl⟩
          go_wp2_with (first
            | (refine wpList_load_midW (by rfl) _ _ rfl _ _ rfl _ _ rU Tryz.underlying40 rfl hsU ?_)
            | fail)
          refine (HWr.out h4).mono ?_
          rintro e wz ⟨rfl, huz⟩
          have H10 := Lib.hid (And.intro (H9.out.1.new huz) (H9.out.2.1.trans (H9.out.1.didNew huz)))
          clear huz
        case' neg =>
          have k5 : ¬ ((z : Int) < 4096) := by omega
          go_wp2_with fail
          refine HO.out.mono ?_
          rintro e wz ⟨rfl, hwz⟩
          have H10 := Lib.hid (And.intro H9.out.1 H9.out.2.1)
          rw [← hwz] at H10 c6
          clear hwz
        all_goals
          have X10 := H4.out.2.1.did H10.out.2
          have D10 := H10.out.1
          have hsup := asuper D10.open2 (fun j hj => .inr hj) D10.back (fun j h3 h2 => by rcases h2 with h2 | h2; rw [h3] at h2; exact absurd h2 (by decide); rw [D10.far j h2] at h3; exact absurd h3 (by decide)) D10.nib D10.on2 (by rw [HEm.out.2.2, ← HZ.out]; omega) n H.out.1 (fun _ => HEm.out.1.ns)
          rw [show supR n F (List.replicate n.bl zB) (curB F [] 0) = (n.C, 0) from by unfold supR; rw [if_pos HEm.out.1.su, if_pos ⟨HEm.out.1.fl, List.length_replicate ..⟩], ← HM.out.2] at hsup
          have HS : Hid (Calls Tryz.prog 21 #[ptr ssd, ptr back] wz (fun e w' => e = .returned (.tuple #[.agg U.toArray, .int .i64 0]) ∧ Dv (fun j => own6 j = 2 ∨ wz.heap.size ≤ j) w' ssd F [] [] ∧ Upd (fun j => own6 j = 2 ∨ wz.heap.size ≤ j) wz w')) := hsup
          clear rU hsup D10 HO HWr X10
          go_wp2_with fail
          refine HS.out.mono ?_
          rintro e w11 ⟨rfl, hd11, hu11⟩
          have D11 := H10.out.1.turn2 hu11 hd11
          have d11 := H10.out.2.trans (H10.out.1.did2 hu11)
          obtain ⟨own11, hown11⟩ : ∃ own11, own11 = grow own6 2 wz.heap.size w11.heap.size := ⟨_, rfl⟩
          rw [← hown11] at D11 d11
          obtain ⟨w12, hw12⟩ : ∃ w12, w12 = w11.alloc (.cells U.toArray 40) := ⟨_, rfl⟩
          have hu12 : Upd (fun _ => False) w11 w12 := by rw [hw12]; exact (Upd.refl _ w11).alloc _
          have D12 := D11.new hu12
          have d12 := d11.trans (D11.didNew hu12)
          have X12 := H4.out.2.1.did d12
          have hUl : U.length = 7 := by rw [HM.out.2]; rfl
          have hU1 : ∀ v ∈ U, v.oneCell' = true := by rw [HM.out.2]; exact n.C_one
          have gx : w12.heap[w11.heap.size]? = some (.cells U.toArray 40 (0, 0)) ∧ own11 w11.heap.size = 0 := ⟨by rw [hw12]; exact heap_alloc_last w11 _ rfl, D11.far _ (Nat.le_refl _)⟩
          obtain ⟨xb, hxb⟩ : ∃ xb, xb = w11.heap.size := ⟨_, rfl⟩
          rw [← hxb] at gx
          have rU := range_of_block X12.s.1
          rw [← H.out.2.2.2.2.2.1] at rU
          have hen : Calls Tryz.prog 22 #[.agg U.toArray, ptr ssd] w12 (EnOut (fun j => own11 j = 2 ∨ w12.heap.size ≤ j) w12 ssd F [] n.jo n.pa) := by
            obtain ⟨b1, b2, s1, s2, j1, j2, l1, l2, a1, a2, p1, p2, zz⟩ := H.out.1
            rw [H.out.2.2.2.2.2.1]
            exact aentries D12.open2 (fun j hj => .inr hj) D12.nib D12.on2 (n.id : Int) n.bl n.sl n.jo n.pa n.lo n.ba b1 b2 s1 s2 j1 j2 l1 l2 a1 a2 p1 p2 zz HEm.out.2.2
          have HEn := Lib.hid hen
          have H12 := Lib.hid (And.intro hw12 (And.intro D12 (And.intro d12 gx)))
          rw [hw12] at rU
          clear c6 hd11 hu11 D11 d11 hown11 hw12 hu12 D12 d12 X12 gx hen HS
          go_wp2_with (first
            | (refine wpList_store_new rfl _ _ _ rfl _ _ U rfl rfl (by rw [hUl]; rfl) hsU hU1 ?_)
            | (refine wpList_load_mid rfl _ _ rfl _ _ rfl _ _ rU Tryz.underlying40 rfl hsU ?_)
            | fail)
          rw [← H12.out.1]
          refine HEn.out.mono ?_
          rintro e w13 h13
          obtain ⟨ao13, cap13, rfl, hd13, hu13⟩ := en_emp h13 HEm.out.1
          have D13 := H12.out.2.1.turn2 hu13 hd13
          have d13' := H12.out.2.1.did2 hu13
          obtain ⟨own13, hown13⟩ : ∃ own13, own13 = grow own11 2 w12.heap.size w13.heap.size := ⟨_, rfl⟩
          rw [← hown13] at D13 d13'
          have d13 := H12.out.2.2.1.trans d13'
          have gx := d13'.zero H12.out.2.2.2.1 H12.out.2.2.2.2
          have hat : Calls Tryz.prog 23 #[ptr ssd, ptr back] w13 (AtOut own13 w13 ssd back n (empA n 0 0 F [] (List.replicate n.bl zB) [])) := aattach_emp D13 HEm.out.1 (List.length_replicate ..)
          have HAt := Lib.hid hat
          have H13 := Lib.hid (And.intro d13 gx)
          clear h13 hd13 hu13 D13 d13' d13 hown13 gx hat HEn rU
          go_wp2_with fail
          refine HAt.out.mono ?_
          rintro e w14 ⟨c, p, own14, li, lc, lf, rfl, hca, hp1, hp2, d14', hi14, hc14, hf14, ol, oc, of⟩
          have d14 := H13.out.1.trans d14'
          have X14 := H4.out.2.1.did d14
          have gx := d14'.zero H13.out.2.1 H13.out.2.2
          have hL : Lg3 own14 w14 n p.ssd li lc lf := by rw [hp1]; exact ⟨⟨hi14, hc14, hf14⟩, ol, oc, of⟩
          obtain ⟨w15, hw15⟩ : ∃ w15, w15 = w14.alloc (.cells #[ptr li, ptr lc, ptr lf] 67) := ⟨_, rfl⟩
          have hu15 : Upd (fun _ => False) w14 w15 := by rw [hw15]; exact (Upd.refl _ w14).alloc _
          have dn := hca.didNew hu15
          have gg : w15.heap[w14.heap.size]? = some (.cells [ptr li, ptr lc, ptr lf].toArray 67 (0, 0)) ∧ own14 w14.heap.size = 0 := ⟨by rw [hw15]; exact heap_alloc_last w14 _ rfl, hca.far _ (Nat.le_refl _)⟩
          obtain ⟨gb, hgb⟩ : ∃ gb, gb = w14.heap.size := ⟨_, rfl⟩
          rw [← hgb] at gg
          have XS := X14.did dn
          have gx := dn.zero gx.1 gx.2
          have hx15 : Hx own14 w15 sb xb gb U [ptr li, ptr lc, ptr lf] := ⟨⟨by rw [H.out.2.2.2.2.2.1]; exact XS.s.1, XS.s.2⟩, gx, gg⟩
          have H15 := Lib.hid (And.intro hw15 (And.intro (hca.new hu15) (And.intro (d14.trans dn) (And.intro hx15 (hL.did dn)))))
          clear hp2 d14' hi14 hc14 hf14 ol oc of hca d14 X14 gx hL hw15 hu15 dn gg XS hx15 HAt H13 H12 H10 H9 H8 H6 H5
          go_wp2_with fail
          rw [← H15.out.1, ← hgb, ← hxb]
          have hud : Upd (fun _ => False) w15 w15.drew := (Upd.refl _ w15).drew
          have hca := H15.out.2.1.new hud
          have dd := H15.out.2.1.didNew hud
          have hx := H15.out.2.2.2.1.did dd
          have hL := H15.out.2.2.2.2.did dd
          have dA := H15.out.2.2.1.trans dd
          have HX := Lib.hid (And.intro hca (And.intro dA (And.intro hx hL)))
          have hHeld := hx.held (n := n) HM.out.2
          have hs7 : (Tryz.prog.info? 40).map (·.size) = some U.length := hsU
          have hsL : (Tryz.prog.info? 67).map (·.size) = some [ptr li, ptr lc, ptr lf].length := infoLogs
          clear hud hca dd hx hL dA
          refine wp_region_held_drew (S := Held n sb xb gb U [ptr li, ptr lc, ptr lf]) (by kernel_rfl) hHeld (fun hHeld => ?_)
          refine Wl.i [0, 1, 2] ?_; iterate 3 refine Wl.t hHeld ?_
          refine Wl.o ?_
          refine Wl.l 3 (fun w h => h.1) Tryz.underlying40 hs7 hHeld ?_
          refine Wl.l 4 (fun w h => h.2.1) Tryz.underlying40 hs7 hHeld ?_
          refine wpAnyH_take (i := 5) (v := .bool true) rfl (by kernel_rfl) (by kernel_rfl) (by kernel_rfl) (fun _ _ _ h => h) (Or.inl ⟨by rfl, ?_⟩) hHeld ?_
          · intro W hSw
            have h3 := C_eq HM.out.2
            go_simp
          simp only [List.getElem_toArray, List.getElem_cons_succ, List.getElem_cons_zero, Act.put, List.setIfInBounds_toArray, List.set_cons_zero, List.set_cons_succ]
          refine Wl.i [6, 7, 8, 9, 10, 11, 12, 13, 14, 15, 16, 17, 18, 19, 20, 21, 22, 23, 24, 25, 26, 27, 28, 29, 30, 31, 32] ?_; iterate 27 refine Wl.t hHeld ?_
          refine Wl.o ?_
          refine Wl.l 33 (fun w h => h.2.2.1) Tryz.underlying67 hsL hHeld ?_
          refine Wl.r 34 (fun K hK => ?_)
          go_simp
          have hlz := empA_logs HEm.out.1 HX.out.1 HX.out.2.2.2
          refine (check_zero hlz).mono ?_
          rintro e w16 ⟨rfl, hd16, hu16⟩
          have hca := HX.out.1.turn2 hu16 hd16 rfl
          rw [empA_same] at hca
          have dd := HX.out.1.did2 hu16
          have hx := HX.out.2.2.1.did dd
          have dA := HX.out.2.1.trans dd
          have H16 := Lib.hid (And.intro hca (And.intro dA hx))
          have hHeld2 := hx.held (n := n) HM.out.2
          refine hK.out _ _ hHeld2 (fun _ => ?_)
          clear hK K hHeld hlz hd16 hu16 hca dd hx dA HX
          refine Wl.i [35, 36, 37, 38, 39, 40, 41, 42, 43] ?_; iterate 9 refine Wl.t hHeld2 ?_
          refine Wl.o ?_
          refine Wl.l 45 (fun w h => h.2.1) Tryz.underlying40 hs7 hHeld2 ?_
          refine Wl.r 44 (fun K hK => ?_)
          go_simp
          have hsu := csuper H16.out.1
          rw [← HM.out.2] at hsu
          refine hsu.mono ?_
          rintro e w17 ⟨rfl, hb17⟩
          have hu17 : Upd (fun _ => False) w16 w17 := Upd.of_below hb17
          have hca := H16.out.1.new hu17
          have dd := H16.out.1.didNew hu17
          have hx := H16.out.2.2.did dd
          have dA := H16.out.2.1.trans dd
          have H17 := Lib.hid (And.intro hca (And.intro dA hx))
          have hHeld3 := hx.held (n := n) HM.out.2
          refine hK.out _ _ hHeld3 (fun _ => ?_)
          clear hK K hHeld2 hsu hb17 hu17 hca dd hx dA H16
          refine wpAnyH_take (i := 46) (v := .bool true) rfl (by kernel_rfl) (by kernel_rfl) (by kernel_rfl) (fun _ _ _ h => h) (Or.inl ⟨by rfl, ?_⟩) hHeld3 ?_
          · intro W hSw
            have h3 := C_eq HM.out.2
            go_simp
          simp only [List.getElem_toArray, List.getElem_cons_succ, List.getElem_cons_zero, Act.put, List.setIfInBounds_toArray, List.set_cons_zero, List.set_cons_succ]
          refine Wl.i [47, 48, 49, 51] ?_; iterate 4 refine Wl.t hHeld3 ?_
          refine Wl.o ?_
          refine wpAnyH_take (i := 52) (v := .int .i64 (n.sl : Int)) rfl (by kernel_rfl) (by kernel_rfl) (by kernel_rfl) (fun _ _ _ h => h) (Or.inl ⟨by rfl, ?_⟩) hHeld3 ?_
          · intro W hSw
            have := hSw.2.2.2
            go_simp
          simp only [List.getElem_toArray, List.getElem_cons_succ, List.getElem_cons_zero, Act.put, List.setIfInBounds_toArray, List.set_cons_zero, List.set_cons_succ]
          refine Wl.r 50 (fun K hK => ?_)
          go_simp
          have hct := ca_ccount H17.out.1 0
          rw [empA_free] at hct
          refine hct.mono ?_
          rintro e w18 ⟨rfl, own18, hca, dd⟩
          have hx := H17.out.2.2.did dd
          have dA := H17.out.2.1.trans dd
          have H18 := Lib.hid (And.intro hca dA)
          have hHeld4 := hx.held (n := n) HM.out.2
          refine hK.out _ _ hHeld4 (fun _ => ?_)
          clear hK K hHeld3 hct hca dd hx dA H17
          refine Wl.i [53, 54, 55] ?_; iterate 3 refine Wl.t hHeld4 ?_
          refine Wl.o ?_
          refine Wl.r 56 (fun K hK => ?_)
          go_simp
          refine (awake19 w18 H18.out.1.nib H18.out.1.tur).mono ?_
          rintro e w19 ⟨rfl, hb19⟩
          have hu19 : Upd (fun _ => False) w18 w19 := Upd.of_below hb19
          have hE := Lib.hid (below_upd (below_upd (Upd.below H4.out.2.2.1) H18.out.2.upd (Nat.le_refl _) (fun k hk => Nat.le_of_not_lt fun hlt => hk.1 (H4.out.2.2.2.2 k hlt))) hu19 (Nat.le_refl _) (fun k h => h.elim))
          have hHeld5 : Held n sb xb gb U [ptr li, ptr lc, ptr lf] w19 := ⟨hu19.range hHeld4.1 (fun h => h), hu19.range hHeld4.2.1 (fun h => h), hu19.range hHeld4.2.2.1 (fun h => h), hu19.cellv hHeld4.2.2.2 (fun h => h)⟩
          refine hK.out _ _ hHeld5 (fun _ => ?_)
          clear hK K hHeld4 hb19 hu19 H18
          refine Wl.i [57] ?_; refine Wl.t hHeld5 ?_
          refine Wl.o ?_
          refine Wl.r 58 (fun K hK => ?_)
          go_simp
          refine hK.out _ _ hHeld5 (fun _ => ?_)
          clear hK K
          refine Wl.d ?_
          go_wp2
          go_ret
          exact ⟨rfl, hE.out⟩
theorem may_id {id bl sl jo pa lo ba : Int} (h : mayS [id, bl, sl, jo, pa, lo, ba] = true) : 0 ≤ id := by
  unfold mayS withinB bndS at h
  simp only [List.zip_cons_cons, List.zip_nil_right, List.all_cons, List.all_nil, inB, Bool.and_eq_true, decide_eq_true_eq, Bool.and_true] at h
  omega
theorem walk (id bl sl jo pa lo ba : Int) {l : List Bk} {v : Value} (w : World) (hl : Rd w 64 v l.length (l.flatMap bkC)) (h64 : ∀ b ∈ l, b.length = 64) (nib : Nib w) (tur : Tur w) :
    Calls Tryz.prog 4 #[.agg (superC id bl sl jo pa lo ba).toArray, v] w fun e w' => e = .returned (.bool true) ∧ Below w.heap.size w w' := by
  by_cases hA : AdmP bl sl jo pa lo ba
  · obtain ⟨⟨⟨a1, a2⟩, ⟨b1, b2⟩, ⟨c1, c2⟩, ⟨d1, d2⟩, ⟨e1, e2⟩, ⟨f1, f2⟩⟩, hz⟩ := hA
    obtain ⟨bl, rfl⟩ := Int.eq_ofNat_of_zero_le (show 0 ≤ bl by omega)
    obtain ⟨sl, rfl⟩ := Int.eq_ofNat_of_zero_le (show 0 ≤ sl by omega)
    obtain ⟨jo, rfl⟩ := Int.eq_ofNat_of_zero_le (show 0 ≤ jo by omega)
    obtain ⟨pa, rfl⟩ := Int.eq_ofNat_of_zero_le (show 0 ≤ pa by omega)
    obtain ⟨lo, rfl⟩ := Int.eq_ofNat_of_zero_le (show 0 ≤ lo by omega)
    obtain ⟨ba, rfl⟩ := Int.eq_ofNat_of_zero_le (show 0 ≤ ba by omega)
    exact walk_yes ⟨id.toNat, bl, sl, jo, pa, lo, ba⟩ id (fun h => by have := may_id h; show id = (id.toNat : Int); omega)
      (by constructor <;> simp only [CaN.size] <;> omega) w hl h64 nib tur
  · exact walk_no hA v w nib tur
end Go.Proofs.YtfhfbpmlnjdfoaaGreatDoor.attachFormats
