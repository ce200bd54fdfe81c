/- The record that a sector is: GetRecord. The journal: what a sector tells; Scan's closure, where nothing is planned. The journal: Scan, where nothing is planned. The journal: Replay. -/
import Derived.Test.YtfhfbpmlnjdfoaaGreatDoorA14
import Derived.Test.YtfhfbpmlnjdfoaaGreatDoorA07
import Derived.Test.YtfhfbpmlnjdfoaaGreatDoorA08
import Derived.Test.YtfhfbpmlnjdfoaaGreatDoorA09
import Derived.Test.YtfhfbpmlnjdfoaaGreatDoorA10
namespace Go.Proofs.YtfhfbpmlnjdfoaaGreatDoor
open Go Go.RowKit
def numsR (b : Bk) : List Nat := numsAt b 1 szR
def okR (b : Bk) : Bool := okGet b 2 szR (mayR (natsI (numsR b)))
def cdR (b : Bk) : Int := cdGet b 2 szR (mayR (natsI (numsR b)))
def GetRPost (w : World) (b : Bk) : Ending → World → Prop := GetPost w (okR b) (dsR (natsI (numsR b))) zeroR (cdR b)
set_option maxRecDepth 100000 in
theorem getR_form {w : World} {gs gt : Nat} (hF : FormR w gs gt) (hN : Nib w) (b : Bk) (hb : b.length = 64) :
    Calls Tryz.prog 177 #[formRV gs gt, .agg (bkC b).toArray] w (GetRPost w b) := by
  obtain ⟨hs, v, hv, hB⟩ := hF
  refine getR_any (w := w) b hb 2 szR ⟨by simp [szR], by decide⟩ 7 rfl (by decide) gs 7 252 253 #[.pointer (some ⟨gt, 0, none⟩)] #[] (.func (.func 250) #[] #[]) (mayR (natsI (numsR b))) (dsR (natsI (numsR b)))
    (by rw [dsR_len]; exact infoThR) (dsR_one _) hs hN (fun _ _ => rfl) (fun _ _ => rfl) ?_ ?_
  · intro W gl c hc hW hr
    subst hc
    exact mayR_any _ (by show (natsI (numsAt b 1 _)).length = 7; simp [natsI, numsAt_len, szR]) (Nat.le_refl _) (by decide) ((Upd.of_below (S := fun _ => False) hW).cellv hv (fun h => h)) (hB.below hW) hr
  · intro _ W gl c hc hW hr
    subst hc
    exact buildR _ (by show (natsI (numsAt b 1 _)).length = 7; simp [natsI, numsAt_len, szR]) hr
set_option maxRecDepth 100000 in
set_option maxHeartbeats 1000000 in
theorem GetR_any {w : World} (hN : Nib w) (b : Bk) (hb : b.length = 64) :
    Calls Tryz.prog 107 #[.agg (bkC b).toArray] w (GetRPost w b) := by
  have HN := Lib.hid hN
  have Hb := Lib.hid hb
  clear hN hb
  go_enter Tryz.func107, Tryz.ntmps107
  go_wp2_with fail
  change Code.wp _ _ _ _ ((w.alloc (.cells (bkC b).toArray 54)).alloc (.cells zeroR.toArray 101))
  have hr : ((w.alloc (.cells (bkC b).toArray 54)).alloc (.cells zeroR.toArray 101)).rangeAt w.heap.size 0 (bkC b) := World.rangeAt_alloc (range_of_block (heap_alloc_last w _ rfl)) _
  have hg : ((w.alloc (.cells (bkC b).toArray 54)).alloc (.cells zeroR.toArray 101)).heap[w.heap.size + 1]? = some (.cells zeroR.toArray 101) := heap_alloc_last _ _ (by simp)
  have hu : Upd (fun _ => False) w ((w.alloc (.cells (bkC b).toArray 54)).alloc (.cells zeroR.toArray 101)) := ((Upd.refl _ w).alloc _).alloc _
  generalize (w.alloc (.cells (bkC b).toArray 54)).alloc (.cells zeroR.toArray 101) = w2 at *
  have hb2 : Below w.heap.size w w2 := Upd.below hu
  refine wp_region_held_drew (S := fun W => W.rangeAt w.heap.size 0 (bkC b)) (by kernel_rfl) (by rw [World.rangeAt_drew]; exact hr) (fun hHeld => ?_)
  refine Wl.l 1 (fun w h => h) Tryz.underlying54 (sizeBk _ Hb.out) hHeld ?_
  refine Wl.r 0 (fun K hK => ?_)
  go_simp
  refine (records_any _).mono ?_
  rintro e w3 ⟨gs, gt, rfl, hF, hb3⟩
  have hb3' : Below w2.heap.size w2 w3 := bundrew' hb3
  refine hK.out _ _ (Below.range hb3 hHeld) (fun hHeld2 => ?_)
  clear hK K
  refine Wl.r 2 (fun K hK => ?_)
  go_simp
  refine (getR_form hF ((HN.out.keep hu (fun h => h)).below hb3') b Hb.out).mono ?_
  rintro e w4 ⟨⟨rs, hr1, hr2, rfl⟩, hb4⟩
  have hb4' : Below w2.heap.size w2 w4 := hb3'.trans (hb4.mono hb3'.size)
  have hg4 := (hb4'.block _ (lt_of_block hg)).trans hg
  have hth : w4.there (w.heap.size + 1) 0 7 := fun j hj => by
    rw [cell_of_block hg4, frozen_of_block hg4]
    exact ⟨by rw [Nat.zero_add, Array.getElem?_eq_getElem (by rw [List.size_toArray]; exact hj)]; rfl, rfl⟩
  have hrl : rs.length = 7 ∧ ∀ v ∈ rs, v.oneCell' = true := by
    cases hk : okR b with
    | true => rw [hr1 hk]; exact ⟨dsR_len _, dsR_one _⟩
    | false => rw [hr2 hk]; exact ⟨rfl, List.all_eq_true.1 (by simp [zeroR, Value.oneCell'] : zeroR.all (·.oneCell') = true)⟩
  have hst : w4.there (w.heap.size + 1) 0 rs.toArray.size := by rw [show rs.toArray.size = 7 by simpa using hrl.1]; exact hth
  have hst2 : w4.there (w.heap.size + 1) 0 rs.length := by rw [hrl.1]; exact hth
  have hsz2 : (Tryz.prog.info? 101).map (·.size) = some rs.toArray.size := by rw [show rs.toArray.size = 7 by simpa using hrl.1]; exact infoThR
  have hsz3 : (Tryz.prog.info? 101).map (·.size) = some rs.length := by rw [hrl.1]; exact infoThR
  have hU5 : Below w.heap.size w (w4.setCells (w.heap.size + 1) 0 rs) := below_upd (hb2.trans (hb4'.mono hu.size)) (upd_row w4 (w.heap.size + 1) 0 _) (Nat.le_refl _) (fun k e => by omega)
  refine hK.out _ _ (Below.range hb4 hHeld2) (fun hHeld3 => ?_)
  clear hK K
  refine Wl.i [3, 4] ?_; iterate 2 refine Wl.t hHeld3 ?_
  refine Wl.o ?_
  refine Wl.r 5 (fun K hK => ?_)
  rw [if_pos (by rfl)]
  refine wp_store_mid _ _ _ rfl _ _ (List.toArray _) rfl rfl (hst) (hsz2) (all_oneCell_toArray hrl.2) ?_
  simp only [Act.put, List.setIfInBounds_toArray]
  refine hK.out _ _ ((upd_row w4 (w.heap.size + 1) 0 rs).range hHeld3 (by omega)) (fun hHeld4 => ?_)
  clear hK K
  refine Wl.r 6 (fun K hK => ?_)
  go_simp
  refine hK.out _ _ (hHeld4) (fun _ => ?_)
  clear hK K
  refine Wl.d ?_
  have HE := Lib.hid (And.intro hU5 (And.intro hst2 (And.intro hsz3 (And.intro hr1 hr2))))
  clear hst hst2 hsz2 hsz3 hU5 hth hg4 hb4 hb4' hb3 hb3' hHeld hHeld2 hHeld3 hHeld4 hF hr hg hu hb2 hr1 hr2 hrl
  go_wp2
  exact bodyPost_ret (results_mid2 rfl _ _ (w.heap.size + 1) 0 rs _ rfl (World.rangeAt_setCells_same _ _ _ _ HE.out.2.1) Tryz.underlying101 rfl HE.out.2.2.1) rfl ⟨⟨rs, HE.out.2.2.2.1, HE.out.2.2.2.2, rfl⟩, HE.out.1⟩
def scOk (n k : Nat) (b : Bk) : Bool := okR b && (decide (((numsR b).getD 0 0 - 1) % n = k) && decide ((numsR b).getD 1 0 = ((numsR b).getD 0 0 - 1) / n))
def scL (n k : Nat) (b : Bk) : List (List Nat) := if scOk n k b then [numsR b] else []
def scanTo (F : List Bk) (O : List (Nat × Bk)) (base n : Nat) : Nat → List (List Nat)
  | 0 => []
  | k + 1 => scanTo F O base n k ++ scL n k (curB F O (base + k))
def recCs (r : List Nat) : List Value := dsR (natsI r)
theorem scanTo_le (F : List Bk) (O : List (Nat × Bk)) (base n : Nat) : ∀ k, (scanTo F O base n k).length ≤ k
  | 0 => Nat.le_refl _
  | k + 1 => by
    have := scanTo_le F O base n k
    rw [scanTo, List.length_append]
    unfold scL
    split <;> simp <;> omega
theorem okR_bounds {b : Bk} (h : okR b = true) : 1 ≤ (numsR b).getD 0 0 ∧ (numsR b).getD 0 0 ≤ 1099511627776 ∧ (numsR b).getD 1 0 ≤ 1099511627776 ∧ (numsR b).getD 2 0 ≤ 1 ∧ (numsR b).getD 3 0 ≤ 4095 ∧ (numsR b).getD 4 0 ≤ 1023 ∧ (numsR b).getD 5 0 ≤ 1 ∧ (numsR b).getD 6 0 ≤ 4294967295 := by
  unfold okR okGet at h
  simp only [Bool.and_eq_true] at h
  have hm := h.2.2.2
  unfold mayR at hm
  rw [Bool.and_eq_true] at hm
  have hl : (natsI (numsR b)).length = 7 := by simp [natsI, numsR, numsAt_len, szR]
  have hw := hm.1
  have e : ∀ i (hi : i < (natsI (numsR b)).length), (natsI (numsR b))[i] = ((numsR b).getD i 0 : Nat) := fun i hi => by
    simp only [natsI, List.getElem_map]
    rw [List.getD_eq_getElem?_getD, List.getElem?_eq_getElem (by simpa [natsI] using hi)]; rfl
  have w0 := within_atR hw (i := 0) (by decide) (by omega)
  have w1 := within_atR hw (i := 1) (by decide) (by omega)
  have w2 := within_atR hw (i := 2) (by decide) (by omega)
  have w3 := within_atR hw (i := 3) (by decide) (by omega)
  have w4 := within_atR hw (i := 4) (by decide) (by omega)
  have w5 := within_atR hw (i := 5) (by decide) (by omega)
  have w6 := within_atR hw (i := 6) (by decide) (by omega)
  rw [e] at w0 w1 w2 w3 w4 w5 w6
  simp only [bndR, List.getElem_cons_zero, List.getElem_cons_succ] at w0 w1 w2 w3 w4 w5 w6
  omega
theorem cdR_no {b : Bk} (h : okR b = false) : ¬ cdR b = 0 := by
  unfold okR at h
  unfold cdR cdGet
  rw [h]
  split
  · next h => cases h
  · split <;> decide
theorem cdR_ok {b : Bk} (h : okR b = true) : cdR b = 0 := by
  unfold okR at h
  unfold cdR cdGet
  rw [h]
  rfl
theorem natsI_getD' (ns : List Nat) (i : Nat) : (natsI ns).getD i 0 = (ns.getD i 0 : Nat) := by
  simp only [natsI, List.getD_eq_getElem?_getD, List.getElem?_map]
  cases ns[i]? <;> rfl
theorem infoRec : ∃ i z, Tryz.prog.info? 101 = some i ∧ i.zero = some z ∧ z.cells.size = 7 ∧ i.size = 7 ∧ i.bytes = 56 := by
  have h : (Tryz.prog.info? 101).map (fun i => (i.zero.map (·.cells.size), i.size, i.bytes)) = some (some 7, 7, 56) := by kernel_rfl
  obtain ⟨i, hi, he⟩ := Option.map_eq_some_iff.1 h
  simp only [Prod.mk.injEq] at he
  obtain ⟨z, hz, hz2⟩ := Option.map_eq_some_iff.1 he.1
  exact ⟨i, z, hi, hz, hz2, he.2.1, he.2.2⟩
def ScI (D : Nat → Prop) (w0 : World) (b p4 : Nat) (F : List Bk) (O : List (Nat × Bk)) (L : List (List Nat)) (W : World) : Prop :=
  Upd (fun j => D j ∨ j = p4) w0 W ∧ ∃ v S1, W.heap[p4]? = some (.cells #[v] 23 (0, 0)) ∧ Sl W 101 7 v L.length (L.flatMap recCs) ∧ From w0.heap.size v ∧
    Dv S1 W b F O [] ∧ (∀ j, S1 j → D j) ∧ (∀ j, S1 j → j < W.heap.size) ∧ ∀ g, v.ownBlock = some g → ¬ S1 g
theorem ScI.new {D : Nat → Prop} {w0 W W' : World} {b p4 : Nat} {F : List Bk} {O : List (Nat × Bk)} {L : List (List Nat)} (h : ScI D w0 b p4 F O L W) (hu : Upd (fun _ => False) W W') : ScI D w0 b p4 F O L W' := by
  obtain ⟨h1, v, S1, h2, h3, h4, h5, h6, h7, h8⟩ := h
  exact ⟨h1.trans (hu.mono (fun _ _ h => h.elim)), v, S1, hu.blockv h2, h3.keep hu (fun _ _ h => h), h4, h5.keep hu (fun _ _ h => h), h6, fun j hj => Nat.lt_of_lt_of_le (h7 j hj) hu.size, h8⟩
set_option maxRecDepth 100000 in
set_option maxHeartbeats 4000000 in
theorem scan1 {D : Nat → Prop} {w0 W : World} {b p1 p2 p3 p4 : Nat} {F : List Bk} {O : List (Nat × Bk)} {base n k : Nat} {L : List (List Nat)} (h : ScI D w0 b p4 F O L W) (hD : ∀ j, w0.heap.size ≤ j → D j) (h4 : p4 < w0.heap.size ∧ ¬ D p4)
    (h1 : w0.cell? ⟨p1, 0, none⟩ = some (.pointer (some ⟨b, 0, none⟩)) ∧ ¬ D p1 ∧ p1 ≠ p4) (h2 : w0.cell? ⟨p2, 0, none⟩ = some (.int .i64 (n : Int)) ∧ ¬ D p2 ∧ p2 ≠ p4) (h3 : w0.cell? ⟨p3, 0, none⟩ = some (.int .i64 (base : Int)) ∧ ¬ D p3 ∧ p3 ≠ p4)
    (hk : k < n) (hn : n ≤ 1024) (hbn : base + n ≤ F.length) (hL : L.length ≤ 1024) (hN : Nib w0) (hND : ¬ D 0 ∧ 0 ≠ p4) :
    Calls Tryz.prog 106 #[.int .i64 ((base : Int) + (k : Int)), .pointer (some ⟨p1, 0, none⟩), .pointer (some ⟨p2, 0, none⟩), .pointer (some ⟨p3, 0, none⟩), .pointer (some ⟨p4, 0, none⟩)] W fun e W' =>
      e = .returned (.int .i64 0) ∧ ScI D w0 b p4 F O (L ++ scL n k (curB F O (base + k))) W' := by
  obtain ⟨hu, v, S1, hcell, hsl, hf, hd, hs1, hs2, hs3⟩ := h
  have hfl := hd.good.fl
  have c1 : W.cell? ⟨p1, 0, none⟩ = some (.pointer (some ⟨b, 0, none⟩)) := hu.cellv h1.1 (fun h => h.elim h1.2.1 h1.2.2)
  have hNW : Nib W := hN.keep hu (fun h => h.elim hND.1 hND.2)
  have HR := Lib.hid (dreadR (S := fun j => S1 j ∨ W.heap.size ≤ j) (hd.wide (fun _ h => .inl h)) (fun _ h => .inr h) (base + k) (by omega))
  rw [show ((base + k : Nat) : Int) = (base : Int) + (k : Int) by simp] at HR
  have H := Lib.hid (And.intro hu (And.intro hcell (And.intro hsl (And.intro hf (And.intro hd (And.intro hs1 (And.intro hs2 (And.intro hs3 (And.intro hNW (And.intro hD (And.intro h4 (And.intro h1 (And.intro h2 h3)))))))))))))
  clear hu hcell hsl hf hd hs1 hs2 hs3 hNW hD h4 h1 h2 h3 hN
  go_enter Tryz.func106, Tryz.ntmps106
  go_wp2_with fail
  refine HR.out.mono ?_
  rintro e W2 ⟨y, cd, rfl, hy, hcd, hyl, hd2, hu2⟩
  have hcd0 : cd = 0 := by rw [hcd]; rfl
  have hyc : y = curB F O (base + k) := by rw [hy]; rfl
  subst hcd0
  obtain ⟨W3, hW3⟩ : ∃ W3, W3 = W2.alloc (.cells (bkC y).toArray 54) := ⟨_, rfl⟩
  have hu3 : Upd (fun _ => False) W2 W3 := by rw [hW3]; exact (Upd.refl _ W2).alloc _
  have g3 : W3.heap[W2.heap.size]? = some (.cells (bkC y).toArray 54 (0, 0)) := by rw [hW3]; exact heap_alloc_last W2 _ rfl
  have r3 := range_of_block g3
  obtain ⟨q, hq⟩ : ∃ q, q = W2.heap.size := ⟨_, rfl⟩
  rw [← hq] at r3
  have hy64 : (bkC y).length = 64 := by rw [bkC_len, hyl]
  have hsz := sizeBk y hyl
  have hw3 : W.heap.size ≤ W3.heap.size := Nat.le_trans hu2.size hu3.size
  have hNib3 : Nib W3 := (H.out.2.2.2.2.2.2.2.2.1.keep hu2 (fun h => by
    rcases h with h | h
    · exact hND.1 (H.out.2.2.2.2.2.1 _ h)
    · have := H.out.2.2.2.2.2.2.2.2.1.lt; omega)).keep hu3 (fun h => h)
  have HG := Lib.hid (GetR_any hNib3 y hyl)
  have HW3 := Lib.hid (And.intro hW3 hq)
  have H2 := Lib.hid (And.intro hd2 (And.intro hu2 (And.intro hu3 (And.intro hyc hw3))))
  clear hd2 hu2 hu3 hyc hw3 hW3 hq g3 hNib3 hy hcd
  go_upto_region 4 with (first
    | (refine wpList_store_new rfl _ _ _ rfl _ _ (bkC y) rfl rfl (by rw [hy64]; rfl) hsz (bkC_one y) ?_)
    | fail)
  rw [← HW3.out.1, ← HW3.out.2]
  go_wp2_with (first
    | (refine wpList_load_mid rfl _ _ rfl _ _ rfl _ _ r3 Tryz.underlying54 rfl hsz ?_)
    | fail)
  refine HG.out.mono ?_
  rintro e W4 ⟨⟨rs, hr1, hr2, rfl⟩, hb4⟩
  have hrl : rs.length = 7 ∧ ∀ v ∈ rs, v.oneCell' = true := by
    cases hk : okR y with
    | true => rw [hr1 hk]; exact ⟨dsR_len _, dsR_one _⟩
    | false => rw [hr2 hk]; exact ⟨rfl, List.all_eq_true.1 (by simp [zeroR, Value.oneCell'] : zeroR.all (·.oneCell') = true)⟩
  obtain ⟨W5, hW5⟩ : ∃ W5, W5 = W4.alloc (.cells rs.toArray 101) := ⟨_, rfl⟩
  have hu5 : Upd (fun _ => False) W3 W5 := by rw [hW5]; exact (Upd.of_below hb4).alloc _
  have g5 : W5.heap[W4.heap.size]? = some (.cells rs.toArray 101 (0, 0)) := by rw [hW5]; exact heap_alloc_last W4 _ rfl
  obtain ⟨M, hM⟩ : ∃ M, M = W4.heap.size := ⟨_, rfl⟩
  rw [← hM] at g5
  have hz5 : W5.heap.size = M + 1 := by rw [hW5, hM]; simp
  have HW5 := Lib.hid (And.intro hW5 (And.intro hM hrl))
  obtain ⟨hd2, hu2, hu3, hyc, hw3⟩ := H2.out
  obtain ⟨hu, hcell, hsl, hf, hd, hs1, hs2, hs3, hNW, hD, h4, h1, h2, h3⟩ := H.out
  have hU25 : Upd (fun _ => False) W2 W5 := hu3.trans hu5
  have hlW := hu.size
  have hS4 : ¬ (S1 p4 ∨ W.heap.size ≤ p4) := fun h => h.elim (fun h => h4.2 (hs1 _ h)) (fun h => by omega)
  have hcell5 := hU25.blockv ((hu2.block p4 (lt_of_block hcell) hS4).trans hcell)
  have hsl5 := (hsl.keep hu2 (fun g hg h => h.elim (hs3 g hg) (fun h => by have := hsl.lt hg; omega))).keep hU25 (fun _ _ h => h)
  have hU5 : Upd (fun j => D j ∨ j = p4) w0 W5 := (hu.trans (hu2.mono (fun j _ h => .inl (h.elim (hs1 j) (fun h => hD j (by omega)))))).trans (hU25.mono (fun _ _ h => h.elim))
  have hd5 : ∃ S2, Dv S2 W5 b F O [] ∧ (∀ j, S2 j → D j) ∧ (∀ j, S2 j → j < W5.heap.size ∧ j ≠ M) ∧ ∀ g, v.ownBlock = some g → ¬ S2 g := by
    refine ⟨fun j => (S1 j ∨ W.heap.size ≤ j) ∧ j < W2.heap.size, (hd2.shrink (fun j h1 h2 => ⟨h1, h2⟩)).keep hU25 (fun _ _ h => h), fun j hj => hj.1.elim (hs1 j) (fun h => hD j (by omega)), fun j hj => ?_, fun g hg hs => hs.1.elim (hs3 g hg) (fun h => by have := hsl.lt hg; omega)⟩
    have := hU25.size
    have := hu3.size
    have := hb4.size
    exact ⟨by omega, by omega⟩
  obtain ⟨S2, d5, e1, e2, e3⟩ := hd5
  have no5 : ScI D w0 b p4 F O L W5 := ⟨hU5, v, S2, hcell5, hsl5, hf, d5, e1, fun j hj => (e2 j hj).1, e3⟩
  have l2 : W5.cell? ⟨p2, 0, none⟩ = some (.int .i64 (n : Int)) := hU5.cellv h2.1 (fun h => h.elim h2.2.1 h2.2.2)
  have l3 : W5.cell? ⟨p3, 0, none⟩ = some (.int .i64 (base : Int)) := hU5.cellv h3.1 (fun h => h.elim h3.2.1 h3.2.2)
  have l4 := cell_of_block hcell5 0
  have f4 := frozen_of_block hcell5 0
  have lp2 := World.block_lt_of_cell? W5 _ l2
  have lp3 := World.block_lt_of_cell? W5 _ l3
  have lp4 := lt_of_block hcell5
  have HB := Lib.hid (And.intro no5 (And.intro hcell5 (And.intro hsl5 (And.intro hU5 (And.intro d5 (And.intro e1 (And.intro e2 (And.intro e3 (And.intro hf (And.intro hlW h4))))))))))
  have hyc' := Lib.hid hyc
  clear hd2 hu2 hu3 hyc hw3 hu hcell hsl hf hd hs1 hs2 hs3 hNW hD h4 h1 h2 h3 hU25 hlW hS4 hcell5 hsl5 hU5 d5 e1 e2 e3 no5 hu5 hb4 hW5 hM r3 c1
  go_upto_region 5 with (first
    | (refine wpList_store_new rfl _ _ _ rfl _ _ rs rfl rfl (by rw [HW5.out.2.2.1]; rfl) (by rw [HW5.out.2.2.1]; exact infoThR) HW5.out.2.2.2 ?_)
    | fail)
  rw [← HW5.out.1, ← HW5.out.2.1]
  cases hok : okR y with
  | false =>
    have q1 := cdR_no hok
    have hsc : scL n k (curB F O (base + k)) = [] := by rw [← hyc'.out]; unfold scL scOk; rw [hok]; rfl
    have HS := Lib.hid hsc
    generalize cdR y = cdd at *
    have q2 : (cdd == 0) = false := by simpa using q1
    clear hok hsc hr1 hr2 g5
    go_quiet (fail)
    go_wp2_with fail
    go_ret
    refine ⟨rfl, ?_⟩
    rw [HS.out, List.append_nil]
    exact HB.out.1.new ((Upd.refl (fun _ => False) W5).drewN nq)
  | true =>
    rw [cdR_ok hok]
    obtain ⟨b1, b2, b3, -⟩ := okR_bounds hok
    rw [hr1 hok] at g5 hrl
    have m0 : W5.cell? ⟨M, 0, none⟩ = some (.int .i64 ((numsR y).getD 0 0 : Nat)) := by rw [cell_of_block g5 0]; show some (Value.int .i64 ((natsI (numsR y)).getD 0 0)) = _; rw [natsI_getD']
    have m1 : W5.cell? ⟨M, 1, none⟩ = some (.int .i64 ((numsR y).getD 1 0 : Nat)) := by rw [cell_of_block g5 1]; show some (Value.int .i64 ((natsI (numsR y)).getD 1 0)) = _; rw [natsI_getD']
    have hsc : scL n k (curB F O (base + k)) = if decide (((numsR y).getD 0 0 - 1) % n = k) && decide ((numsR y).getD 1 0 = ((numsR y).getD 0 0 - 1) / n) then [numsR y] else [] := by rw [← hyc'.out]; unfold scL scOk; rw [hok]; rfl
    have HS := Lib.hid hsc
    have rM := range_of_block g5
    have hrr : rs = recCs (numsR y) := hr1 hok
    have HRR := Lib.hid (And.intro hrr rM)
    clear hok hsc hr1 hr2 g5 hrl rM hrr
    generalize (numsR y).getD 0 0 = a0 at *
    generalize (numsR y).getD 1 0 = a1 at *
    obtain ⟨p, rfl⟩ : ∃ p, a0 = p + 1 := ⟨a0 - 1, by omega⟩
    simp only [Nat.add_sub_cancel] at HS
    have hp1 : (p : Int) ≤ 1099511627776 := by omega
    have hp2 : (0 : Int) ≤ (p : Int) := by omega
    have hwp : IntKind.i64.wrap (p : Int) = (p : Int) := IntWalk.i64_in _ (by omega)
    have hwk : IntKind.i64.wrap (k : Int) = (k : Int) := IntWalk.i64_in _ (by omega)
    have hk1 : (k : Int) ≤ 1024 := by omega
    have hk2 : (0 : Int) ≤ (k : Int) := by omega
    have hn0 : ¬ n = 0 := by omega
    have hw2 : IntKind.i64.wrap ((base : Int) + (k : Int) - (base : Int)) = (k : Int) := by
      rw [show (base : Int) + (k : Int) - (base : Int) = (k : Int) by omega]
      exact IntWalk.i64_in _ (by omega)
    have ht : (p : Int).tmod (n : Int) = ((p % n : Nat) : Int) := (Int.ofNat_tmod p n).symm
    have hd : (p : Int).tdiv (n : Int) = ((p / n : Nat) : Int) := by rw [Int.tdiv_eq_ediv_of_nonneg (by omega), ← Int.natCast_ediv]
    have hdl : p / n ≤ p := Nat.div_le_self _ _
    generalize p % n = pm at *
    generalize p / n = pd at *
    have hd2 : IntKind.i64.wrap (pd : Int) = (pd : Int) := IntWalk.i64_in _ (by omega)
    clear hdl
    by_cases hc0 : pm = k
    · subst hc0
      have q1 : ((pm : Nat) : Int) == (pm : Int) := by simp
      by_cases hc1 : a1 = pd
      · subst hc1
        rw [decide_eq_true rfl, decide_eq_true rfl] at HS
        replace HS : Hid (scL n pm (curB F O (base + pm)) = [numsR y]) := HS
        go_quiet (fail)
        clear hw2 ht hd hd2
        have hud := (Upd.refl (fun _ => False) W5).drewN nq
        generalize W5.drewN nq = W6 at *
        obtain ⟨no5, hcell5, hsl5, hU5, d5, e1, e2, e3, hf, hlW, h4⟩ := HB.out
        have g6 := hud.blockv hcell5
        have c6 := cell_of_block g6 0
        have f6 := frozen_of_block g6 0
        have lt6 := lt_of_block g6
        have r5 : W5.rangeAt M 0 rs := by rw [HRR.out.1]; exact HRR.out.2
        have r6 := hud.range r5 (fun h => h)
        clear r5
        have hsl6 := hsl5.keep hud (fun _ _ h => h)
        have hrl : rs.length = 7 := HW5.out.2.2.1
        have hr1 := HW5.out.2.2.2
        have hri : (Tryz.prog.info? 101).map (·.size) = some rs.length := by rw [hrl]; exact infoThR
        obtain ⟨ir, zr, hir, hzr, hz7, hi7, hi56⟩ := infoRec
        have HI := Lib.hid (And.intro hir (And.intro hzr (And.intro hz7 (And.intro hi7 hi56))))
        have HF := Lib.hid (And.intro hsl6 (And.intro hrl (And.intro hr1 (And.intro hri r6))))
        have HUD := Lib.hid (And.intro hud g6)
        have hm1 : Hid (L.length + 1 ≤ maxLen) := by show _ ≤ _; unfold maxLen; omega
        have hm2 : Hid ((L.length + 1) * 56 ≤ 140737488355328) := by show _ ≤ _; omega
        clear no5 hcell5 hsl5 hU5 d5 e1 e2 e3 hf hlW h4 g6 hsl6 hrl hr1 hri r6 hud l2 l3 l4 f4 m0 m1 hir hzr hz7 hi7 hi56 q1
        go_wp2_with (first
          | (refine wpList_load_mid rfl 101 _ rfl _ _ rfl _ _ HF.out.2.2.2.2 Tryz.underlying101 rfl HF.out.2.2.2.1 ?_)
          | (refine wpList_row rfl 23 101 _ rfl 7 (by decide) Tryz.underlying23 ⟨ir, zr, HI.out.1, HI.out.2.1, HI.out.2.2.1, HI.out.2.2.2.1⟩ (by decide) rs rfl HF.out.2.1 ?_)
          | (at_builtin; refine wpList_append_one rfl _ _ 23 rfl ir zr 56 Tryz.underlying23 HI.out.1 HI.out.2.1 HI.out.2.2.2.1 HI.out.2.2.2.2 HI.out.2.2.1 (by decide) rfl HF.out.1 rs rfl HF.out.2.1 HF.out.2.2.1 hm1.out hm2.out ?_; intro v' w7 hs7 hu7 hb7; obtain ⟨ao', cc', rfl⟩ := hs7.rd.nil_iff; refine Stop.i ?_)
          | fail)
        obtain ⟨no5, hcell5, hsl5, hU5, d5, e1, e2, e3, hf, hlW, h4⟩ := HB.out
        obtain ⟨hud, g6⟩ := HUD.out
        have hv4 : v.ownBlock ≠ some p4 := fun e => by
          have := hf p4 e; omega
        have g7 := (hu7.block p4 lt6 (fun h => hv4 h)).trans g6
        have hcs := heap_setCell_same g7 0 (.slice ao' (L.length + 1) cc')
        have hus := upd_setCell w7 p4 0 (.slice ao' (L.length + 1) cc')
        have c7 := cell_of_block g7 0
        have f7 := frozen_of_block g7 0
        obtain ⟨w8, hw8⟩ : ∃ w8, w8 = w7.setCell ⟨p4, 0, none⟩ (.slice ao' (L.length + 1) cc') := ⟨_, rfl⟩
        rw [← hw8] at hcs hus
        have hb7' : ∀ g, (Value.slice ao' (L.length + 1) cc').ownBlock = some g → v.ownBlock = some g ∨ W6.heap.size ≤ g := fun g hg => by
          rcases hb7 with e | ⟨g2, e, hge⟩
          · rw [e] at hg; exact .inl hg
          · rw [e] at hg; cases hg; exact .inr hge
        have hDn := H.out.2.2.2.2.2.2.2.2.2.1
        have h65 := hud.size
        have hFIN : ScI D w0 b p4 F O (L ++ [numsR y]) w8 := by
          have hfv : From w0.heap.size (.slice ao' (L.length + 1) cc') := fun g hg => by
            rcases hb7' g hg with h | h
            · exact hf g h
            · have := hU5.size; omega
          refine ⟨((hU5.trans (hud.mono (fun _ _ h => h.elim))).trans (hu7.mono (fun j _ h => .inl (hDn j (hf j h))))).trans (hus.mono (fun j _ h => .inr h)), _, S2, hcs, ?_, hfv, ?_, e1, fun j hj => ?_, fun g hg hs => ?_⟩
          · rw [List.length_append, List.flatMap_append, List.flatMap_cons, List.flatMap_nil, List.append_nil, ← HRR.out.1]
            exact hs7.keep hus (fun g hg e => by
              have := hfv g hg; omega)
          · exact ((d5.keep hud (fun _ _ h => h)).keep hu7 (fun j hj h => e3 j h hj)).keep hus (fun j hj e => h4.2 (e ▸ e1 j hj))
          · have := (e2 j hj).1
            have := hu7.size
            have := hus.size
            omega
          · rcases hb7' g hg with h | h
            · exact e3 g h hs
            · have := (e2 g hs).1; omega
        have HFN := Lib.hid hFIN
        have HW8 := Lib.hid hw8
        clear no5 hcell5 hsl5 hU5 d5 e1 e2 e3 hf hlW h4 hud g6 hv4 g7 hcs hus hb7' hDn hFIN hs7 hu7 hb7 hw8
        unfold Stop
        go_wp2_with fail
        go_ret
        rw [← HW8.out]
        refine ⟨rfl, ?_⟩
        rw [HS.out]
        exact HFN.out
      · have q2 : ¬ ((a1 : Nat) : Int) = (pd : Int) := by omega
        rw [decide_eq_false hc1, Bool.and_false] at HS
        replace HS : Hid (scL n pm (curB F O (base + pm)) = []) := HS
        clear hc1
        go_quiet (fail)
        clear hw2 ht hd hd2
        go_wp2_with fail
        go_ret
        refine ⟨rfl, ?_⟩
        rw [HS.out, List.append_nil]
        exact HB.out.1.new ((Upd.refl (fun _ => False) W5).drewN nq)
    · have q1 : ¬ ((pm : Nat) : Int) = (k : Int) := by omega
      rw [decide_eq_false hc0] at HS
      replace HS : Hid (scL n k (curB F O (base + k)) = []) := HS
      clear hc0
      go_quiet (fail)
      clear hw2 ht hd hd2
      go_wp2_with fail
      go_ret
      refine ⟨rfl, ?_⟩
      rw [HS.out, List.append_nil]
      exact HB.out.1.new ((Upd.refl (fun _ => False) W5).drewN nq)
set_option maxRecDepth 100000 in
set_option maxHeartbeats 2000000 in
theorem sfirst {D : Nat → Prop} {w : World} {b p1 p2 p3 p4 g : Nat} {F : List Bk} {O : List (Nat × Bk)} {base n : Nat} (h : ScI D w b p4 F O [] w) (hD : ∀ j, w.heap.size ≤ j → D j) (h4 : p4 < w.heap.size ∧ ¬ D p4)
    (h1 : w.cell? ⟨p1, 0, none⟩ = some (.pointer (some ⟨b, 0, none⟩)) ∧ ¬ D p1 ∧ p1 ≠ p4) (h2 : w.cell? ⟨p2, 0, none⟩ = some (.int .i64 (n : Int)) ∧ ¬ D p2 ∧ p2 ≠ p4) (h3 : w.cell? ⟨p3, 0, none⟩ = some (.int .i64 (base : Int)) ∧ ¬ D p3 ∧ p3 ≠ p4)
    (hg : w.heap[g]? = some (.cells (ints (secL base n n)).toArray 3 (0, 0)) ∧ ¬ D g ∧ g ≠ p4) (hn : n ≤ 1024) (hbn : base + n ≤ F.length) (hN : Nib w) (hND : ¬ D 0 ∧ 0 ≠ p4) :
    Calls Tryz.prog 104 #[.slice (some ⟨g, 0, none⟩) n n, .func (.func 106) #[] #[.pointer (some ⟨p1, 0, none⟩), .pointer (some ⟨p2, 0, none⟩), .pointer (some ⟨p3, 0, none⟩), .pointer (some ⟨p4, 0, none⟩)]] w fun e w' =>
      e = .returned (.int .i64 0) ∧ ScI D w b p4 F O (scanTo F O base n n) w' := by
  have H := Lib.hid (And.intro h (And.intro hD (And.intro h4 (And.intro h1 (And.intro h2 (And.intro h3 (And.intro hg (And.intro hN hND))))))))
  clear h hD h4 h1 h2 h3 hg hN hND
  go_enter Tryz.func104, Tryz.ntmps104
  go_wp2
  go_step3
  go_wp2
  go_step3
  go_wp2_with fail
  go_loopg [5, 10] n (fun gk s5 s10 wr => ∃ k : Nat, k + gk = n ∧ s10 = .int .i64 (k : Int) ∧ s5 = .int .i64 0 ∧ ScI D w b p4 F O (scanTo F O base n k) wr)
  case atStart => exact ⟨0, by omega, rfl, rfl, H.out.1⟩
  case round =>
    obtain ⟨k, hk, rfl, rfl, hS⟩ := hrel
    by_cases hlt : k < n
    · have k1 : (k : Int) < (n : Int) := by omega
      have k0 : (0 : Int) ≤ (k : Int) := by omega
      obtain ⟨h, hD, h4, h1, h2, h3, hg, hN, hND⟩ := H.out
      have hgr := (hS.1.block g (lt_of_block hg.1) (fun h => h.elim hg.2.1 hg.2.2)).trans hg.1
      have cg : wr.cell? ⟨g, k, none⟩ = some (.int .i64 ((base : Int) + (k : Int))) := by
        rw [cell_of_block hgr, List.getElem?_toArray, get_ints (by rw [secL_len]; exact hlt)]
        simp only [secL, List.getElem_map, List.getElem_range, if_pos hlt, Int.natCast_add]
      have HC := Lib.hid (scan1 (k := k) hS hD h4 h1 h2 h3 hlt hn hbn (Nat.le_trans (scanTo_le F O base n k) (by omega)) hN hND)
      clear h hD h4 h1 h2 h3 hg hN hND hgr hS
      go_wp2_with fail
      refine HC.out.mono ?_
      rintro e w2 ⟨rfl, hS2⟩
      have HS2 := Lib.hid hS2
      clear hS2 HC cg
      go_wp2_with fail
      go_roundg (gk - 1)
      case measure => omega
      case rel => exact ⟨k + 1, by omega, by go_num, rfl, HS2.out⟩
    · obtain rfl : k = n := by omega
      have k1 : ¬ ((k : Int) < (k : Int)) := by omega
      have HS2 := Lib.hid hS
      clear hS
      go_wp2_with fail
      try rw [Exit.noGoto_ret]
      go_ret
      exact ⟨rfl, HS2.out⟩
def rseq (r : List Nat) : Nat := r.getD 0 0
structure RepS where
  d : List (List Nat)
  g : Nat
  l : Nat
def repStep (s : RepS) (r : List Nat) : RepS := if rseq r = s.l + 1 then ⟨s.d ++ [r], max s.g (rseq r), rseq r⟩ else ⟨s.d, max s.g (rseq r), s.l⟩
def repS (L : List (List Nat)) (after : Nat) : RepS := L.foldl repStep ⟨[], after, after⟩
theorem repS_snoc (L : List (List Nat)) (after : Nat) {k : Nat} (hk : k < L.length) : repS (L.take (k + 1)) after = repStep (repS (L.take k) after) L[k] := by
  rw [List.take_succ_eq_append_getElem hk, repS, List.foldl_append]; rfl
theorem repStep_le {s : RepS} {r : List Nat} {N : Nat} (hs : s.g ≤ N ∧ s.l ≤ N) (hr : rseq r ≤ N) : (repStep s r).g ≤ N ∧ (repStep s r).l ≤ N ∧ (repStep s r).d.length ≤ s.d.length + 1 := by
  unfold repStep
  split
  · exact ⟨Nat.max_le.2 ⟨hs.1, hr⟩, hr, by simp⟩
  · exact ⟨Nat.max_le.2 ⟨hs.1, hr⟩, hs.2, by simp⟩
theorem repS_le {L : List (List Nat)} {after N : Nat} (ha : after ≤ N) (hL : ∀ r ∈ L, rseq r ≤ N) : ∀ k, k ≤ L.length → (repS (L.take k) after).g ≤ N ∧ (repS (L.take k) after).l ≤ N ∧ (repS (L.take k) after).d.length ≤ k
  | 0, _ => ⟨ha, ha, Nat.le_refl _⟩
  | k + 1, hk => by
    obtain ⟨h1, h2, h3⟩ := repS_le ha hL k (by omega)
    obtain ⟨q1, q2, q3⟩ := repStep_le (r := L[k]'(by omega)) ⟨h1, h2⟩ (hL _ (List.getElem_mem _))
    rw [repS_snoc L after (by omega)]
    exact ⟨q1, q2, by omega⟩
def RepOut (w : World) (r : RepS) (e : Ending) (w' : World) : Prop :=
  ∃ v, e = .returned (.tuple #[v, .int .i64 (r.g : Nat)]) ∧ Sl w' 101 7 v r.d.length (r.d.flatMap recCs) ∧ From w.heap.size v ∧ Below w.heap.size w w'
theorem recs_row {w : World} {g o : Nat} {L : List (List Nat)} (h : ∀ j u, (L.flatMap recCs)[j]? = some u → w.cell? ⟨g, o + j, none⟩ = some u) {k : Nat} (hk : k < L.length) : w.rangeAt g (o + k * 7) (recCs L[k]) := by
  intro j v hj
  have hj' : j < 7 := (List.getElem?_eq_some_iff.1 hj).1
  rw [Nat.add_assoc]
  refine h _ v ?_
  have : ∀ (L : List (List Nat)) (k : Nat) (hk : k < L.length), (L.flatMap recCs)[k * 7 + j]? = (recCs L[k])[j]? := by
    intro L
    induction L with
    | nil => intro k hk; simp at hk
    | cons x L ih =>
      intro k hk
      rw [List.flatMap_cons]
      cases k with
      | zero => rw [Nat.zero_mul, Nat.zero_add, List.getElem?_append_left (by show j < 7; exact hj')]; rfl
      | succ k =>
        rw [List.getElem?_append_right (by show 7 ≤ _; omega)]
        show (L.flatMap recCs)[(k + 1) * 7 + j - 7]? = _
        rw [show (k + 1) * 7 + j - 7 = k * 7 + j by omega]
        exact ih k (by simpa using hk)
  rw [this L k hk]; exact hj
set_option maxRecDepth 100000 in
set_option maxHeartbeats 4000000 in
theorem jreplay {w : World} {v : Value} {L : List (List Nat)} (hs : Rd w 7 v L.length (L.flatMap recCs)) (after : Nat) (ha : after ≤ 1099511627776) (hL : ∀ r ∈ L, rseq r ≤ 1099511627776) (hl1 : L.length ≤ 1024) :
    Calls Tryz.prog 70 #[v, .int .i64 (after : Int)] w (RepOut w (repS L after)) := by
  obtain ⟨ao, cap, rfl⟩ := hs.nil_iff
  have H := Lib.hid (And.intro hs (And.intro ha hL))
  clear hs
  go_enter Tryz.func70, Tryz.ntmps70
  go_wp2
  go_step3
  go_wp2
  go_step3
  go_wp2_with fail
  go_loopg [6, 7, 8, 15] L.length (fun gk s6 s7 s8 s15 wr => ∃ k : Nat, ∃ r : RepS, k + gk = L.length ∧ s15 = .int .i64 (k : Int) ∧ r = repS (L.take k) after ∧ s7 = .int .i64 (r.g : Nat) ∧ s8 = .int .i64 (r.l : Nat) ∧ Sl wr 101 7 s6 r.d.length (r.d.flatMap recCs) ∧ From w.heap.size s6 ∧ Below w.heap.size w wr)
  case atStart => exact ⟨0, ⟨[], after, after⟩, by omega, rfl, rfl, rfl, rfl, Sl.nil _ _ _, From.nil _ _ _, Below.refl _ _⟩
  case round =>
    obtain ⟨k, r, hk, rfl, hr, rfl, rfl, hsl, hf, hb⟩ := hrel
    by_cases hlt : k < L.length
    · have k1 : (k : Int) < (L.length : Int) := by omega
      have k0 : (0 : Int) ≤ (k : Int) := by omega
      obtain ⟨g, o, cp, e, hgl, hcell⟩ := H.out.1.at (by omega)
      cases e
      obtain ⟨b1, b2, b3⟩ := repS_le H.out.2.1 H.out.2.2 k (by omega)
      rw [← hr] at b1 b2 b3
      have hx := recs_row hcell hlt
      have hnx := repS_snoc L after hlt
      rw [← hr] at hnx
      have hsq := H.out.2.2 _ (List.getElem_mem hlt)
      obtain ⟨x, hxx⟩ : ∃ x, x = L[k] := ⟨_, rfl⟩
      rw [← hxx] at hx hnx hsq
      have hrow : wr.rangeAt g (o + k * 7) (recCs x) := Below.range hb hx
      have c0 : wr.cell? ⟨g, o + k * 7, none⟩ = some (.int .i64 (rseq x : Nat)) := by
        have := hrow 0 (.int .i64 ((natsI x).getD 0 0)) rfl
        rw [natsI_getD'] at this
        exact this
      have hxl : (recCs x).length = 7 := rfl
      have hx1 : ∀ v ∈ recCs x, v.oneCell' = true := dsR_one (natsI x)
      have hxi : (Tryz.prog.info? 101).map (·.size) = some (recCs x).length := infoThR
      obtain ⟨w2, hw2⟩ : ∃ w2, w2 = wr.alloc (.cells (recCs x).toArray 101) := ⟨_, rfl⟩
      have hu2 : Upd (fun _ => False) wr w2 := by rw [hw2]; exact (Upd.refl _ wr).alloc _
      have g2 : w2.heap[wr.heap.size]? = some (.cells (recCs x).toArray 101 (0, 0)) := by rw [hw2]; exact heap_alloc_last wr _ rfl
      have r2 := range_of_block g2
      have e2 : w2.cell? ⟨wr.heap.size, 0, none⟩ = some (.int .i64 (rseq x : Nat)) := by
        have := r2 0 (.int .i64 ((natsI x).getD 0 0)) rfl
        rw [natsI_getD'] at this
        exact this
      obtain ⟨q, hq⟩ : ∃ q, q = wr.heap.size := ⟨_, rfl⟩
      rw [← hq] at r2 e2
      have HW := Lib.hid (And.intro hw2 (And.intro hq hx1))
      have hsl2 := hsl.keep hu2 (fun _ _ h => h)
      have hb2 := hb.trans ((Upd.below hu2).mono hb.size)
      obtain ⟨ir, zr, hir, hzr, hz7, hi7, hi56⟩ := infoRec
      have HI := Lib.hid (And.intro hir (And.intro hzr (And.intro hz7 (And.intro hi7 hi56))))
      have hm1 : Hid (r.d.length + 1 ≤ maxLen) := by show _ ≤ _; unfold maxLen; omega
      have hm2 : Hid ((r.d.length + 1) * 56 ≤ 140737488355328) := by show _ ≤ _; omega
      have HB := Lib.hid (And.intro hsl2 (And.intro hf (And.intro hb2 (And.intro hnx (And.intro hm1.out hm2.out)))))
      have HX2 : Hid (u6.ownBlock ≠ some q) := fun e => by have := hsl.lt e; omega
      have HX3 : Hid (recCs x = recCs x) := rfl
      have HX := Lib.hid (And.intro hxl (And.intro hxi (And.intro hx1 r2)))
      clear hsl hf hb hcell hx hnx hx1 hsl2 hb2 hw2 hu2 g2 r2 hq c0 hxx hir hzr hz7 hi7 hi56 hxl hr
      have HZ0 : Hid (∃ z, rseq x = z) := ⟨_, rfl⟩
      generalize hzz : rseq x = z at *
      have HZ := Lib.hid hzz
      clear hzz HZ0
      generalize hrs : recCs x = rs at *
      replace HX3 := Lib.hid hrs
      clear hrs
      go_upto_region 6 with (first
        | (refine wpList_load_mid rfl 101 _ rfl _ _ rfl _ _ hrow Tryz.underlying101 rfl HX.out.2.1 ?_)
        | (refine wpList_store_new rfl _ _ _ rfl _ _ rs rfl rfl (by rw [HX.out.1]; rfl) HX.out.2.1 HX.out.2.2.1 ?_)
        | fail)
      rw [← HW.out.1, ← HW.out.2.1]
      by_cases hz : z = r.l + 1
      · subst hz
        have q1 : ¬ (((r.l + 1 : Nat) : Int) ≤ (r.l : Int)) := by omega
        have hst : repStep r x = ⟨r.d ++ [x], max r.g (r.l + 1), r.l + 1⟩ := by unfold repStep; rw [if_pos HZ.out, HZ.out]
        have HS := Lib.hid hst
        clear hst
        rcases Nat.lt_or_ge r.g (r.l + 1) with hg | hg
        all_goals
          have hg' : (r.g : Int) < ((r.l + 1 : Nat) : Int) ∨ ((r.l + 1 : Nat) : Int) ≤ (r.g : Int) := by omega
          first
            | (have hgi : (r.g : Int) < ((r.l + 1 : Nat) : Int) := by omega)
            | (have hgi : ((r.l + 1 : Nat) : Int) ≤ (r.g : Int) := by omega)
          clear hg'
          go_wp2_with (first
            | (refine wpList_load_mid rfl 101 _ rfl _ _ rfl _ _ HX.out.2.2.2 Tryz.underlying101 rfl HX.out.2.1 ?_)
            | (refine wpList_row rfl 23 101 _ rfl 7 (by decide) Tryz.underlying23 ⟨ir, zr, HI.out.1, HI.out.2.1, HI.out.2.2.1, HI.out.2.2.2.1⟩ (by decide) rs rfl HX.out.1 ?_)
            | (at_builtin; refine wpList_append_one rfl _ _ 23 rfl ir zr 56 Tryz.underlying23 HI.out.1 HI.out.2.1 HI.out.2.2.2.1 HI.out.2.2.2.2 HI.out.2.2.1 (by decide) rfl HB.out.1 rs rfl HX.out.1 HX.out.2.2.1 hm1.out hm2.out ?_; intro v' w7 hs7 hu7 hb7; obtain ⟨ao', cc', rfl⟩ := hs7.rd.nil_iff; refine Stop.i ?_)
            | fail)
          unfold Stop
          have hq2 : q < w2.heap.size := World.block_lt_of_cell? w2 _ e2
          have hqv : u6.ownBlock ≠ some q := HX2.out
          have e7 : w7.cell? ⟨q, 0, none⟩ = some (.int .i64 ((r.l + 1 : Nat) : Int)) := (hu7.cellAt hq2 (fun h => hqv h)).trans e2
          have hbw : Below w.heap.size w w7 := below_upd HB.out.2.2.1 hu7 (Nat.le_refl _) (fun g hg => HB.out.2.1 g hg)
          have hfv : From w.heap.size (.slice ao' (r.d.length + 1) cc') := hb7.ge (HB.out.2.2.1.size) HB.out.2.1
          have hs7' : Sl w7 101 7 (.slice ao' (r.d.length + 1) cc') (repStep r x).d.length ((repStep r x).d.flatMap recCs) := by
            rw [HS.out]
            simp only [List.length_append, List.flatMap_append, List.flatMap_cons, List.flatMap_nil, List.append_nil, List.length_cons, List.length_nil]
            rw [HX3.out]
            exact hs7
          have HN := Lib.hid (And.intro hbw (And.intro hfv hs7'))
          clear hbw hfv hs7' hs7 hu7 hb7 hqv
          go_wp2_with fail
          go_roundg (gk - 1)
          case measure => omega
          case rel =>
            refine ⟨k + 1, repStep r x, by omega, by go_num, HB.out.2.2.2.1.symm, ?_, by rw [HS.out]; simp, HN.out.2.2, HN.out.2.1, HN.out.1⟩
            rw [HS.out]
            simp only []
            first
              | (rw [Nat.max_eq_right (by omega)]; done)
              | (rw [Nat.max_eq_left (by omega)]; done)
              | (rw [Nat.max_eq_right (by omega)]; simp; done)
              | (rw [Nat.max_eq_left (by omega)]; simp)
      · have q1 : ¬ (((z : Nat) : Int) = (r.l : Int) + 1) := by omega
        have hst : repStep r x = ⟨r.d, max r.g z, r.l⟩ := by unfold repStep; rw [if_neg (by rw [HZ.out]; exact hz), HZ.out]
        have HS := Lib.hid hst
        clear hst
        rcases Nat.lt_or_ge r.g z with hg | hg
        all_goals
          first
            | (have hgi : (r.g : Int) < (z : Int) := by omega)
            | (have hgi : (z : Int) ≤ (r.g : Int) := by omega)
          by_cases hle : (z : Int) ≤ (r.l : Int)
          all_goals
            go_wp2_with fail
            go_roundg (gk - 1)
            case measure => omega
            case rel =>
              refine ⟨k + 1, repStep r x, by omega, by go_num, HB.out.2.2.2.1.symm, ?_, by rw [HS.out], ?_, HB.out.2.1, HB.out.2.2.1⟩
              · rw [HS.out]
                simp only []
                first
                  | rw [Nat.max_eq_right (by omega)]
                  | rw [Nat.max_eq_left (by omega)]
              · rw [HS.out]; exact HB.out.1
    · obtain rfl : k = L.length := by omega
      have k1 : ¬ ((L.length : Int) < (L.length : Int)) := by omega
      rw [List.take_of_length_le (Nat.le_refl _)] at hr
      have HZ := Lib.hid (And.intro hsl (And.intro hf (And.intro hb hr)))
      clear hsl hf hb hr
      go_wp2_with fail
      try rw [Exit.noGoto_ret]
      go_ret2
      rw [← HZ.out.2.2.2]
      exact ⟨u6, rfl, HZ.out.1, HZ.out.2.1, HZ.out.2.2.1⟩
end Go.Proofs.YtfhfbpmlnjdfoaaGreatDoor
