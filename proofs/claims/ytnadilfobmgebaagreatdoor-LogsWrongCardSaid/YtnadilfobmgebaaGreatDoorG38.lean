/- The form of the kind Failure; Put of a thing. Failures: the failure of numbers; a failure's numbers. The intent that a sector is. The intent that a sector is: GetFailure. Failures: a failure's numbers. The log of failures: its kind of things. -/
import Derived.Test.YtnadilfobmgebaaGreatDoorG37
import Derived.Laws.EntriesVeiled
import Derived.Test.YtnadilfobmgebaaGreatDoorG31
import Derived.Test.YtnadilfobmgebaaGreatDoorG12
import Derived.Test.YtnadilfobmgebaaGreatDoorG13
import Derived.Test.YtnadilfobmgebaaGreatDoorG34
import Derived.Test.YtnadilfobmgebaaGreatDoorG36
namespace Go.Proofs.YtnadilfobmgebaaGreatDoor
open Go Go.RowKit
def szF : List Nat := [6, 6, 2, 2, 1, 3, 3, 3, 3, 3, 3, 3, 3]
def formFV (gs gt : Nat) : Value := .agg #[.int .i64 6, .slice (some ⟨gs, 0, none⟩) 13 13, .func (.func 203) #[] #[], .func (.func 204) #[] #[.pointer (some ⟨gt, 0, none⟩)], .func (.func 206) #[] #[]]
def FormF (w : World) (gs gt : Nat) : Prop := w.rangeAt gs 0 (ints (natsI szF)) ∧ ∃ v, w.cell? ⟨gt, 0, none⟩ = some v ∧ Bnd w v bndF
theorem infoFoF : (Tryz.prog.info? 258).map (·.size) = some 5 := by kernel_rfl
theorem infoThF : (Tryz.prog.info? 58).map (·.size) = some 13 := by kernel_rfl
set_option maxRecDepth 100000 in
set_option maxHeartbeats 1000000 in
theorem failures_any (w : World) : Calls Tryz.prog 164 #[] w fun e w' => ∃ gs gt, e = .returned (formFV gs gt) ∧ FormF w' gs gt ∧ Below w.heap.size w w' := by
  have hmf : ∀ (fn : Fn) (first cap : Array Value) (w : World), (Instr.makeFunc fn first cap).run Tryz.prog w = .ok (.func fn first cap) w := fun _ _ _ _ => rfl
  go_enter Tryz.func164, Tryz.ntmps164
  go_wp2_with fail
  refine (within_ok).mono ?_
  rintro e w1 ⟨rfl, rfl⟩
  go_wp2
  obtain ⟨h1, h2, h3, h4, h5, h6, h7⟩ := five_new w (.cells #[.int .i64 6, .slice (some ⟨w.heap.size + 1 + 1 + 1 + 1, 0, none⟩) 13 13, .func (.func 203) #[] #[], .func (.func 204) #[] #[.pointer (some ⟨w.heap.size + 1 + 1 + 1, 0, none⟩)], .func (.func 206) #[] #[]] 258)
    (.cells (bndC bndF).toArray 202) (.cells #[.slice (some ⟨w.heap.size + 1, 0, none⟩) 5 5] 265) (.cells #[.func (.func 168) #[] #[.pointer (some ⟨w.heap.size + 1 + 1, 0, none⟩)]] 124) (.cells (ints (natsI szF)).toArray 3)
  refine bodyPost_ret (results_mid1 rfl _ _ w.heap.size 0 [.int .i64 6, .slice (some ⟨w.heap.size + 1 + 1 + 1 + 1, 0, none⟩) 13 13, .func (.func 203) #[] #[], .func (.func 204) #[] #[.pointer (some ⟨w.heap.size + 1 + 1 + 1, 0, none⟩)], .func (.func 206) #[] #[]] _ rfl (range_of_block h1) Tryz.underlying258 rfl infoFoF) rfl
    ⟨w.heap.size + 1 + 1 + 1 + 1, w.heap.size + 1 + 1 + 1, rfl, ⟨range_of_block h5, _, cell_of_block h4 0, w.heap.size + 1 + 1, w.heap.size + 1, 5, rfl, cell_of_block h3 0, range_of_block h2⟩, Upd.below h7⟩
def sectF (xs : List Int) : Bk := sectB 6 (numL szF xs)
theorem sectF_len {xs : List Int} (h : xs.length = 13) : (sectF xs).length = 64 := sectB_len (by rw [numL_sizes (by rw [h]; rfl)]; decide)
def PutFPost (w : World) (xs : List Int) (e : Ending) (w' : World) : Prop :=
  ((mayF xs = true ∧ e = .returned (.tuple #[.agg (bkC (sectF xs)).toArray, .int .i64 0])) ∨ (mayF xs = false ∧ e = .returned (.tuple #[.agg (bkC zB).toArray, .int .i64 10]))) ∧ Below w.heap.size w w'
set_option maxRecDepth 100000 in
theorem putF_any {w : World} {gs gt : Nat} (hF : FormF w gs gt) (hN : Nib w) (cs : List Value) (hcs : cs.length = 13) (xs : List Int) (hxl : xs.length = 13)
    (htell : ∀ W, Calls Tryz.prog 203 #[.agg cs.toArray] W (TellPostC W 13 xs)) :
    Calls Tryz.prog 163 #[formFV gs gt, .agg cs.toArray] w (PutFPost w xs) := by
  obtain ⟨hs, v, hv, hB⟩ := hF
  have hcz : (Tryz.prog.info? 58).map (·.size) = some cs.length := by rw [hcs]; exact infoThF
  have htell' : ∀ W, Below w.heap.size w W → Calls Tryz.prog 203 (#[.agg cs.toArray] ++ #[]) W (TellPostC W 13 xs) := fun W _ => htell W
  have hmay : ∀ W gl cc, 13 ≤ cc → cc ≤ maxLen → Below w.heap.size w W → W.rangeAt gl 0 (ints xs) → Calls Tryz.prog 204 (#[.slice (some ⟨gl, 0, none⟩) 13 cc] ++ #[.pointer (some ⟨gt, 0, none⟩)]) W fun e W' => e = .returned (.bool (mayF xs)) ∧ Below W.heap.size W W' := fun W gl cc hc hc2 hW hr =>
    mayF_any xs hxl hc hc2 ((Upd.of_below (S := fun _ => False) hW).cellv hv (fun h => h)) (hB.below hW) hr
  cases hm : mayF xs with
  | false =>
    rw [hm] at hmay
    exact (putF_no (w := w) 6 xs 13 gs 13 203 204 #[] #[.pointer (some ⟨gt, 0, none⟩)] (.func (.func 206) #[] #[]) rfl cs hcz (fun _ _ => rfl) (fun _ _ => rfl) htell' hmay).mono
      (fun e w' ⟨he, hb⟩ => ⟨.inr ⟨hm, he⟩, hb⟩)
  | true =>
    rw [hm] at hmay
    obtain ⟨h0, hfit⟩ := mayF_fits hxl hm
    have e : numsL (numL szF xs) = xs := numL_nums (by rw [hxl]; rfl) h0
    rw [← e] at htell' hmay
    exact (putF_yes (w := w) 6 (by decide) (numL szF xs) hfit 13 (by rw [numL_len (by rw [hxl]; rfl)]; rfl) (by decide) gs 13 203 204 #[] #[.pointer (some ⟨gt, 0, none⟩)] (.func (.func 206) #[] #[]) rfl cs hcz (by rw [numL_szs (by rw [hxl]; rfl)]; exact hs) hN (fun _ _ => rfl) (fun _ _ => rfl) htell' hmay).mono
      (fun e w' ⟨he, hb⟩ => ⟨.inl ⟨hm, he⟩, hb⟩)
set_option maxRecDepth 100000 in
set_option maxHeartbeats 1000000 in
theorem PutF_any {w : World} (hN : Nib w) (cs : List Value) (hcs : cs.length = 13) (xs : List Int) (hxl : xs.length = 13)
    (htell : ∀ W, Calls Tryz.prog 203 #[.agg cs.toArray] W (TellPostC W 13 xs)) :
    Calls Tryz.prog 107 #[.agg cs.toArray] w (PutFPost w xs) := by
  have HN := Lib.hid (And.intro hN htell)
  have hcz : (Tryz.prog.info? 58).map (·.size) = some cs.length := by rw [hcs]; exact infoThF
  have HC := Lib.hid hcz
  have hr : ((w.alloc (.cells cs.toArray 58)).alloc (.cells (bkC zB).toArray 23)).rangeAt w.heap.size 0 cs := World.rangeAt_alloc (range_of_block (heap_alloc_last w _ rfl)) _
  clear hN htell hcz
  go_enter Tryz.func107, Tryz.ntmps107
  go_wp2_with fail
  change Code.wp _ _ _ _ ((w.alloc (.cells cs.toArray 58)).alloc (.cells (bkC zB).toArray 23))
  have hg : ((w.alloc (.cells cs.toArray 58)).alloc (.cells (bkC zB).toArray 23)).heap[w.heap.size + 1]? = some (.cells (bkC zB).toArray 23) := heap_alloc_last _ _ (by simp)
  have hu : Upd (fun _ => False) w ((w.alloc (.cells cs.toArray 58)).alloc (.cells (bkC zB).toArray 23)) := ((Upd.refl _ w).alloc _).alloc _
  generalize (w.alloc (.cells cs.toArray 58)).alloc (.cells (bkC zB).toArray 23) = w2 at *
  have hb2 : Below w.heap.size w w2 := Upd.below hu
  refine wp_region_held_drew (S := fun W => W.rangeAt w.heap.size 0 cs) (by kernel_rfl) (by rw [World.rangeAt_drew]; exact hr) (fun hHeld => ?_)
  refine' wpAnyH_take (i := 1) rfl (by kernel_rfl) (by kernel_rfl) (by kernel_rfl) (fun _ _ _ h => h) (yieldsIf_load_mid (by rfl) _ _ rfl _ _ rfl _ _ (fun w h => h) Tryz.underlying58 rfl HC.out) hHeld _
  simp only [List.getElem_toArray, List.getElem_cons_succ, List.getElem_cons_zero, Act.put, List.setIfInBounds_toArray, List.set_cons_zero, List.set_cons_succ]
  refine wpAnyH_ready (rs := [0]) (by kernel_rfl) (by simp) ?_
  refine AllReadyH.cons rfl (fun K hK => ?_) AllReadyH.nil
  go_simp
  refine (failures_any _).mono ?_
  rintro e w3 ⟨gs, gt, rfl, hF, hb3⟩
  have hb3' : Below w2.heap.size w2 w3 := bundrew' hb3
  refine hK.out _ _ (Below.range hb3 hHeld) (fun hHeld2 => ?_)
  clear hK K
  refine wpAnyH_ready (rs := [2]) (by kernel_rfl) (by simp) ?_
  refine AllReadyH.cons rfl (fun K hK => ?_) AllReadyH.nil
  go_simp
  refine (putF_any hF ((HN.out.1.keep hu (fun h => h)).below hb3') cs hcs xs hxl HN.out.2).mono ?_
  rintro e w4 ⟨he, hb4⟩
  have hb4' : Below w2.heap.size w2 w4 := hb3'.trans (hb4.mono hb3'.size)
  have hg4 := (hb4'.block _ (lt_of_block hg)).trans hg
  have hth : w4.there (w.heap.size + 1) 0 64 := fun j hj => by
    rw [cell_of_block hg4, frozen_of_block hg4]
    exact ⟨by rw [Nat.zero_add, Array.getElem?_eq_getElem (by rw [bkC_size _ zB_len]; exact hj)]; rfl, rfl⟩
  obtain ⟨y, cd, hy, hres, rfl⟩ : ∃ (y : Bk) (cd : Int), y.length = 64 ∧ ((mayF xs = true ∧ y = sectF xs ∧ cd = 0) ∨ (mayF xs = false ∧ y = zB ∧ cd = 10)) ∧ e = .returned (.tuple #[.agg (bkC y).toArray, .int .i64 cd]) := by
    rcases he with ⟨hm, rfl⟩ | ⟨hm, rfl⟩
    · exact ⟨_, 0, sectF_len hxl, .inl ⟨hm, rfl, rfl⟩, rfl⟩
    · exact ⟨_, 10, zB_len, .inr ⟨hm, rfl, rfl⟩, rfl⟩
  have HR := Lib.hid (And.intro hy hres)
  clear he hy hres
  have hst : w4.there (w.heap.size + 1) 0 (bkC y).toArray.size := by rw [bkC_size _ HR.out.1]; exact hth
  have hst2 : w4.there (w.heap.size + 1) 0 (bkC y).length := by rw [bkC_len, HR.out.1]; exact hth
  have hsz2 : (Tryz.prog.info? 23).map (·.size) = some (bkC y).toArray.size := by rw [bkC_size _ HR.out.1]; exact sizeBk'
  refine hK.out _ _ (Below.range hb4 hHeld2) (fun hHeld3 => ?_)
  clear hK K
  refine wpAnyH_take (i := 3) (v := ?_) rfl (by kernel_rfl) (by kernel_rfl) (by kernel_rfl) (fun _ _ _ h => h) (Or.inl ⟨by rfl, ?_⟩) hHeld3 ?_
  rotate_left
  · intro W hSw; (try dsimp only at hSw); (try go_split_ands); go_simp; (try with_reducible rfl)
  simp only [List.getElem_toArray, List.getElem_cons_succ, List.getElem_cons_zero, Act.put, List.setIfInBounds_toArray, List.set_cons_zero, List.set_cons_succ]
  refine wpAnyH_take (i := 4) (v := ?_) rfl (by kernel_rfl) (by kernel_rfl) (by kernel_rfl) (fun _ _ _ h => h) (Or.inl ⟨by rfl, ?_⟩) hHeld3 ?_
  rotate_left
  · intro W hSw; (try dsimp only at hSw); (try go_split_ands); go_simp; (try with_reducible rfl)
  simp only [List.getElem_toArray, List.getElem_cons_succ, List.getElem_cons_zero, Act.put, List.setIfInBounds_toArray, List.set_cons_zero, List.set_cons_succ]
  have hU5 : Below w.heap.size w (w4.setCells (w.heap.size + 1) 0 (bkC y)) := below_upd (hb2.trans (hb4'.mono hu.size)) (upd_row w4 (w.heap.size + 1) 0 _) (Nat.le_refl _) (fun k e => by omega)
  refine wpAnyH_ready (rs := [5]) (by kernel_rfl) (by simp) ?_
  refine AllReadyH.cons rfl (fun K hK => ?_) AllReadyH.nil
  rw [if_pos (by rfl)]
  refine wp_store_mid _ _ _ rfl _ _ (List.toArray _) rfl rfl (hst) (hsz2) (all_oneCell_toArray (bkC_one _)) ?_
  simp only [Act.put, List.setIfInBounds_toArray]
  refine hK.out _ _ ((upd_row w4 (w.heap.size + 1) 0 (bkC y)).range hHeld3 (by omega)) (fun hHeld4 => ?_)
  clear hK K
  refine wpAnyH_ready (rs := [6]) (by kernel_rfl) (by simp) ?_
  refine AllReadyH.cons rfl (fun K hK => ?_) AllReadyH.nil
  go_simp
  refine hK.out _ _ (hHeld4) (fun _ => ?_)
  clear hK K
  refine wpAnyH_done (by kernel_rfl) ?_ _
  have HE := Lib.hid (And.intro hU5 hst2)
  clear hst hst2 hsz2 hU5 hth hg4 hb4 hb4' hb3 hb3' hHeld hHeld2 hHeld3 hHeld4 hF hr hg hu hb2
  go_wp2
  refine bodyPost_ret (results_mid2 rfl _ _ (w.heap.size + 1) 0 (bkC y) _ rfl (World.rangeAt_setCells_same _ _ _ _ HE.out.2) Tryz.underlying23 rfl (sizeBk _ HR.out.1)) rfl ⟨?_, HE.out.1⟩
  rcases HR.out.2 with ⟨hm, rfl, rfl⟩ | ⟨hm, rfl, rfl⟩
  · exact .inl ⟨hm, rfl⟩
  · exact .inr ⟨hm, rfl⟩
set_option maxRecDepth 100000 in
set_option maxHeartbeats 2000000 in
theorem buildF {w : World} {gl ol : Nat} (xs : List Int) (hxl : xs.length = 13) (hx : w.rangeAt gl ol (ints xs)) :
    Calls Tryz.prog 206 #[.slice (some ⟨gl, ol, none⟩) 13 13] w fun e w' => e = .returned (.agg (ints xs).toArray) ∧ Below w.heap.size w w' := by
  obtain ⟨x0, x1, x2, x3, x4, y0, y1, y2, y3, y4, y5, y6, y7, rfl⟩ : ∃ x0 x1 x2 x3 x4 y0 y1 y2 y3 y4 y5 y6 y7, xs = [x0, x1, x2, x3, x4, y0, y1, y2, y3, y4, y5, y6, y7] := by
    match xs, hxl with
    | [x0, x1, x2, x3, x4, y0, y1, y2, y3, y4, y5, y6, y7], _ => exact ⟨_, _, _, _, _, _, _, _, _, _, _, _, _, rfl⟩
  have c0 : w.cell? ⟨gl, ol + 0, none⟩ = some (.int .i64 x0) := cellF hx 0 (by simp)
  have c1 : w.cell? ⟨gl, ol + 1, none⟩ = some (.int .i64 x1) := cellF hx 1 (by simp)
  have c2 : w.cell? ⟨gl, ol + 2, none⟩ = some (.int .i64 x2) := cellF hx 2 (by simp)
  have c3 : w.cell? ⟨gl, ol + 3, none⟩ = some (.int .i64 x3) := cellF hx 3 (by simp)
  have c4 : w.cell? ⟨gl, ol + 4, none⟩ = some (.int .i64 x4) := cellF hx 4 (by simp)
  rw [Nat.add_zero] at c0
  have hr : w.rangeAt gl (ol + 5) (ints [y0, y1, y2, y3, y4, y5, y6, y7]) := ints_drop (k := 5) hx
  have hlt : gl < w.heap.size := World.block_lt_of_cell? w _ c0
  have hat := fun (w : World) (a : Option Addr) (cc : Nat) => run_arrayAt (P := Tryz.prog) w 56 3 8 a 8 cc Tryz.underlying56 (by omega)
  obtain ⟨L8, hL8⟩ : ∃ L8, L8 = ints [y0, y1, y2, y3, y4, y5, y6, y7] := ⟨_, rfl⟩
  have h8 : (Tryz.prog.info? 56).map (·.size) = some L8.length := by rw [hL8]; exact infoS8
  have hbl : ∀ W : World, (Instr.build 58 #[(0, .int .i64 x0), (1, .int .i64 x1), (2, .agg #[.int .i64 x2, .int .i64 x3]), (3, .int .i64 x4), (4, .agg L8.toArray)]).run Tryz.prog W = .ok (.agg (ints [x0, x1, x2, x3, x4, y0, y1, y2, y3, y4, y5, y6, y7]).toArray) W := by
    intro W; rw [hL8]; kernel_rfl
  have hfz : (Tryz.prog.info? 58).map (·.size) = some (ints [x0, x1, x2, x3, x4, y0, y1, y2, y3, y4, y5, y6, y7]).length := infoFz
  have hfz2 : (Tryz.prog.info? 58).map (·.size) = some (ints [x0, x1, x2, x3, x4, y0, y1, y2, y3, y4, y5, y6, y7]).toArray.size := infoFz
  have hone := ints_oneF [x0, x1, x2, x3, x4, y0, y1, y2, y3, y4, y5, y6, y7]
  have hlen : (ints [x0, x1, x2, x3, x4, y0, y1, y2, y3, y4, y5, y6, y7]).length = 13 := rfl
  generalize ints [x0, x1, x2, x3, x4, y0, y1, y2, y3, y4, y5, y6, y7] = L at *
  have hLa : L.toArray.size = 13 := by simpa using hlen
  rw [← hL8] at hr
  obtain ⟨Z, hZ⟩ : ∃ Z : List Value, Z = [Value.int .i64 0, Value.int .i64 0, Value.int .i64 0, Value.int .i64 0, Value.int .i64 0, Value.int .i64 0, Value.int .i64 0, Value.int .i64 0, Value.int .i64 0, Value.int .i64 0, Value.int .i64 0, Value.int .i64 0, Value.int .i64 0] := ⟨_, rfl⟩
  have hal := allocFail
  simp only [← hZ] at hal
  have hZl : Z.toArray.size = 13 := by rw [hZ]; rfl
  have hgz := heap_alloc_last w (.cells Z.toArray 58) rfl
  have hth : (w.alloc (.cells Z.toArray 58)).drew.there w.heap.size 0 13 := fun j hj => by
    rw [World.cell?_drew]
    refine ⟨by rw [cell_of_block hgz, Nat.zero_add, Array.getElem?_eq_getElem (by rw [hZl]; exact hj)]; rfl, ?_⟩
    exact frozen_of_block hgz _
  have hu : Upd (fun _ => False) w (w.alloc (.cells Z.toArray 58)) := (Upd.refl _ w).alloc _
  have d0 := hu.cellv c0 (fun h => h)
  have d1 := hu.cellv c1 (fun h => h)
  have d2 := hu.cellv c2 (fun h => h)
  have d3 := hu.cellv c3 (fun h => h)
  have d4 := hu.cellv c4 (fun h => h)
  have dr := hu.range hr (fun h => h)
  have HB : Hid (∀ cs, Below w.heap.size w ((w.alloc (.cells Z.toArray 58)).drew.setCells w.heap.size 0 cs)) := fun cs => below_upd (below_drewN ((Below.refl _ w).alloc (Nat.le_refl _) _) 1) (upd_row _ w.heap.size 0 _) (Nat.le_refl _) (fun k e => by omega)
  clear hx hxl hL8 c0 c1 c2 c3 c4 hr hgz hZ hZl hu
  go_enter Tryz.func206, Tryz.ntmps206
  go_wp2_with (first
    | (refine wpList_allocZ rfl _ rfl _ hal ?_)
    | fail)
  generalize w.alloc (.cells Z.toArray 58) = w1 at *
  refine wp_region_held_drew (S := fun W => (W.cell? ⟨gl, ol, none⟩ = some (.int .i64 x0) ∧ W.cell? ⟨gl, ol + 1, none⟩ = some (.int .i64 x1) ∧ W.cell? ⟨gl, ol + 2, none⟩ = some (.int .i64 x2) ∧ W.cell? ⟨gl, ol + 3, none⟩ = some (.int .i64 x3) ∧ W.cell? ⟨gl, ol + 4, none⟩ = some (.int .i64 x4)) ∧ W.rangeAt gl (ol + 5) L8) (by kernel_rfl) (by rw [World.rangeAt_drew]; (simp only [World.cell?_drew]); exact ⟨⟨d0, d1, d2, d3, d4⟩, dr⟩) (fun hHeld => ?_)
  refine wpAnyH_take (i := 0) (v := ?_) rfl (by kernel_rfl) (by kernel_rfl) (by kernel_rfl) (fun _ _ _ h => h) (Or.inl ⟨by rfl, ?_⟩) hHeld ?_
  rotate_left
  · intro W hSw; (try dsimp only at hSw); (try go_split_ands); go_simp; (try with_reducible rfl)
  simp only [List.getElem_toArray, List.getElem_cons_zero, Act.put, List.setIfInBounds_toArray, List.set_cons_zero, List.set_cons_succ]
  refine wpAnyH_take (i := 1) (v := ?_) rfl (by kernel_rfl) (by kernel_rfl) (by kernel_rfl) (fun _ _ _ h => h) (Or.inl ⟨by rfl, ?_⟩) hHeld ?_
  rotate_left
  · intro W hSw; (try dsimp only at hSw); (try go_split_ands); go_simp; (try with_reducible rfl)
  simp only [List.getElem_toArray, List.getElem_cons_succ, List.getElem_cons_zero, Act.put, List.setIfInBounds_toArray, List.set_cons_zero, List.set_cons_succ]
  refine wpAnyH_take (i := 2) (v := ?_) rfl (by kernel_rfl) (by kernel_rfl) (by kernel_rfl) (fun _ _ _ h => h) (Or.inl ⟨by rfl, ?_⟩) hHeld ?_
  rotate_left
  · intro W hSw; (try dsimp only at hSw); (try go_split_ands); go_simp; (try with_reducible rfl)
  simp only [List.getElem_toArray, List.getElem_cons_succ, List.getElem_cons_zero, Act.put, List.setIfInBounds_toArray, List.set_cons_zero, List.set_cons_succ]
  refine wpAnyH_take (i := 3) (v := ?_) rfl (by kernel_rfl) (by kernel_rfl) (by kernel_rfl) (fun _ _ _ h => h) (Or.inl ⟨by rfl, ?_⟩) hHeld ?_
  rotate_left
  · intro W hSw; (try dsimp only at hSw); (try go_split_ands); go_simp; (try with_reducible rfl)
  simp only [List.getElem_toArray, List.getElem_cons_succ, List.getElem_cons_zero, Act.put, List.setIfInBounds_toArray, List.set_cons_zero, List.set_cons_succ]
  refine wpAnyH_take (i := 4) (v := ?_) rfl (by kernel_rfl) (by kernel_rfl) (by kernel_rfl) (fun _ _ _ h => h) (Or.inl ⟨by rfl, ?_⟩) hHeld ?_
  rotate_left
  · intro W hSw; (try dsimp only at hSw); (try go_split_ands); go_simp; (try with_reducible rfl)
  simp only [List.getElem_toArray, List.getElem_cons_succ, List.getElem_cons_zero, Act.put, List.setIfInBounds_toArray, List.set_cons_zero, List.set_cons_succ]
  refine wpAnyH_take (i := 5) (v := ?_) rfl (by kernel_rfl) (by kernel_rfl) (by kernel_rfl) (fun _ _ _ h => h) (Or.inl ⟨by rfl, ?_⟩) hHeld ?_
  rotate_left
  · intro W hSw; (try dsimp only at hSw); (try go_split_ands); go_simp; (try with_reducible rfl)
  simp only [List.getElem_toArray, List.getElem_cons_succ, List.getElem_cons_zero, Act.put, List.setIfInBounds_toArray, List.set_cons_zero, List.set_cons_succ]
  refine wpAnyH_take (i := 6) (v := ?_) rfl (by kernel_rfl) (by kernel_rfl) (by kernel_rfl) (fun _ _ _ h => h) (Or.inl ⟨by rfl, ?_⟩) hHeld ?_
  rotate_left
  · intro W hSw; (try dsimp only at hSw); (try go_split_ands); go_simp; (try with_reducible rfl)
  simp only [List.getElem_toArray, List.getElem_cons_succ, List.getElem_cons_zero, Act.put, List.setIfInBounds_toArray, List.set_cons_zero, List.set_cons_succ]
  refine wpAnyH_take (i := 7) (v := ?_) rfl (by kernel_rfl) (by kernel_rfl) (by kernel_rfl) (fun _ _ _ h => h) (Or.inl ⟨by rfl, ?_⟩) hHeld ?_
  rotate_left
  · intro W hSw; (try dsimp only at hSw); (try go_split_ands); go_simp; (try with_reducible rfl)
  simp only [List.getElem_toArray, List.getElem_cons_succ, List.getElem_cons_zero, Act.put, List.setIfInBounds_toArray, List.set_cons_zero, List.set_cons_succ]
  refine wpAnyH_take (i := 8) (v := ?_) rfl (by kernel_rfl) (by kernel_rfl) (by kernel_rfl) (fun _ _ _ h => h) (Or.inl ⟨by rfl, ?_⟩) hHeld ?_
  rotate_left
  · intro W hSw; (try dsimp only at hSw); (try go_split_ands); go_simp; (try with_reducible rfl)
  simp only [List.getElem_toArray, List.getElem_cons_succ, List.getElem_cons_zero, Act.put, List.setIfInBounds_toArray, List.set_cons_zero, List.set_cons_succ]
  refine wpAnyH_take (i := 9) (v := ?_) rfl (by kernel_rfl) (by kernel_rfl) (by kernel_rfl) (fun _ _ _ h => h) (Or.inl ⟨by rfl, ?_⟩) hHeld ?_
  rotate_left
  · intro W hSw; (try dsimp only at hSw); (try go_split_ands); go_simp; (try with_reducible rfl)
  simp only [List.getElem_toArray, List.getElem_cons_succ, List.getElem_cons_zero, Act.put, List.setIfInBounds_toArray, List.set_cons_zero, List.set_cons_succ]
  refine wpAnyH_take (i := 10) (v := ?_) rfl (by kernel_rfl) (by kernel_rfl) (by kernel_rfl) (fun _ _ _ h => h) (Or.inl ⟨by rfl, ?_⟩) hHeld ?_
  rotate_left
  · intro W hSw; (try dsimp only at hSw); (try go_split_ands); go_simp; (try with_reducible rfl)
  simp only [List.getElem_toArray, List.getElem_cons_succ, List.getElem_cons_zero, Act.put, List.setIfInBounds_toArray, List.set_cons_zero, List.set_cons_succ]
  refine wpAnyH_take (i := 11) (v := ?_) rfl (by kernel_rfl) (by kernel_rfl) (by kernel_rfl) (fun _ _ _ h => h) (Or.inl ⟨by rfl, ?_⟩) hHeld ?_
  rotate_left
  · intro W hSw; (try dsimp only at hSw); (try go_split_ands); go_simp; (try with_reducible rfl)
  simp only [List.getElem_toArray, List.getElem_cons_succ, List.getElem_cons_zero, Act.put, List.setIfInBounds_toArray, List.set_cons_zero, List.set_cons_succ]
  refine wpAnyH_take (i := 12) (v := ?_) rfl (by kernel_rfl) (by kernel_rfl) (by kernel_rfl) (fun _ _ _ h => h) (Or.inl ⟨by rfl, ?_⟩) hHeld ?_
  rotate_left
  · intro W hSw; (try dsimp only at hSw); (try go_split_ands); go_simp; (try with_reducible rfl)
  simp only [List.getElem_toArray, List.getElem_cons_succ, List.getElem_cons_zero, Act.put, List.setIfInBounds_toArray, List.set_cons_zero, List.set_cons_succ]
  refine wpAnyH_take (i := 13) (v := ?_) rfl (by kernel_rfl) (by kernel_rfl) (by kernel_rfl) (fun _ _ _ h => h) (Or.inl ⟨by rfl, ?_⟩) hHeld ?_
  rotate_left
  · intro W hSw; (try dsimp only at hSw); (try go_split_ands); go_simp; (try with_reducible rfl)
  simp only [List.getElem_toArray, List.getElem_cons_succ, List.getElem_cons_zero, Act.put, List.setIfInBounds_toArray, List.set_cons_zero, List.set_cons_succ]
  refine wpAnyH_take (i := 14) (v := ?_) rfl (by kernel_rfl) (by kernel_rfl) (by kernel_rfl) (fun _ _ _ h => h) (Or.inl ⟨by rfl, ?_⟩) hHeld ?_
  rotate_left
  · intro W hSw; (try dsimp only at hSw); (try go_split_ands); go_simp; (try with_reducible rfl)
  simp only [List.getElem_toArray, List.getElem_cons_succ, List.getElem_cons_zero, Act.put, List.setIfInBounds_toArray, List.set_cons_zero, List.set_cons_succ]
  refine wpAnyH_take (i := 15) (v := ?_) rfl (by kernel_rfl) (by kernel_rfl) (by kernel_rfl) (fun _ _ _ h => h) (Or.inl ⟨by rfl, ?_⟩) hHeld ?_
  rotate_left
  · intro W hSw; (try dsimp only at hSw); (try go_split_ands); go_simp; (try with_reducible rfl)
  simp only [List.getElem_toArray, List.getElem_cons_succ, List.getElem_cons_zero, Act.put, List.setIfInBounds_toArray, List.set_cons_zero, List.set_cons_succ]
  refine wpAnyH_take (i := 16) (v := ?_) rfl (by kernel_rfl) (by kernel_rfl) (by kernel_rfl) (fun _ _ _ h => h) (Or.inl ⟨by rfl, ?_⟩) hHeld ?_
  rotate_left
  · intro W hSw; (try dsimp only at hSw); (try go_split_ands); go_simp; (try with_reducible rfl)
  simp only [List.getElem_toArray, List.getElem_cons_succ, List.getElem_cons_zero, Act.put, List.setIfInBounds_toArray, List.set_cons_zero, List.set_cons_succ]
  refine wpAnyH_take (i := 17) (v := ?_) rfl (by kernel_rfl) (by kernel_rfl) (by kernel_rfl) (fun _ _ _ h => h) (Or.inl ⟨by rfl, ?_⟩) hHeld ?_
  rotate_left
  · intro W hSw; (try dsimp only at hSw); (try go_split_ands); go_simp; (try with_reducible rfl)
  simp only [List.getElem_toArray, List.getElem_cons_succ, List.getElem_cons_zero, Act.put, List.setIfInBounds_toArray, List.set_cons_zero, List.set_cons_succ]
  refine wpAnyH_take (i := 18) (v := ?_) rfl (by kernel_rfl) (by kernel_rfl) (by kernel_rfl) (fun _ _ _ h => h) (Or.inl ⟨by rfl, ?_⟩) hHeld ?_
  rotate_left
  · intro W hSw; (try dsimp only at hSw); (try go_split_ands); go_simp; (try with_reducible rfl)
  simp only [List.getElem_toArray, List.getElem_cons_succ, List.getElem_cons_zero, Act.put, List.setIfInBounds_toArray, List.set_cons_zero, List.set_cons_succ]
  refine' wpAnyH_take (i := 19) rfl (by kernel_rfl) (by kernel_rfl) (by kernel_rfl) (fun _ _ _ h => h) (yieldsIf_load_mid (by rfl) _ _ rfl _ _ rfl _ _ (fun w h => h.2) Tryz.underlying56 rfl h8) hHeld _
  simp only [List.getElem_toArray, List.getElem_cons_succ, List.getElem_cons_zero, Act.put, List.setIfInBounds_toArray, List.set_cons_zero, List.set_cons_succ]
  refine wpAnyH_take (i := 20) (v := .agg L.toArray) rfl (by kernel_rfl) (by kernel_rfl) (by kernel_rfl) (fun _ _ _ h => h) (Or.inl ⟨by rfl, fun W _ => ?_⟩) hHeld ?_
  · simp only [List.getElem_toArray, List.getElem_cons_succ, List.getElem_cons_zero, execOp, Sem.run_bind, List.map_toArray, List.map_cons, List.map_nil]
    change ((Instr.build 58 #[(0, .int .i64 x0), (1, .int .i64 x1), (2, .agg #[.int .i64 x2, .int .i64 x3]), (3, .int .i64 x4), (4, .agg L8.toArray)]).run Tryz.prog W).andThen _ = _
    rw [hbl]; rfl
  simp only [List.getElem_toArray, List.getElem_cons_succ, List.getElem_cons_zero, Act.put, List.setIfInBounds_toArray, List.set_cons_zero, List.set_cons_succ]
  refine wpAnyH_ready (rs := [21]) (by kernel_rfl) (by simp) ?_
  refine AllReadyH.cons rfl (fun K hK => ?_) AllReadyH.nil
  rw [if_pos (by rfl)]
  refine wp_store_mid _ _ _ rfl _ _ L.toArray rfl rfl (by rw [hLa]; exact hth) hfz2 (all_oneCell_toArray hone) ?_
  simp only [Act.put, List.setIfInBounds_toArray]
  refine hK.out _ _ (⟨⟨cell_keep_setCells hHeld.1.1 (by omega), cell_keep_setCells hHeld.1.2.1 (by omega), cell_keep_setCells hHeld.1.2.2.1 (by omega), cell_keep_setCells hHeld.1.2.2.2.1 (by omega), cell_keep_setCells hHeld.1.2.2.2.2 (by omega)⟩, (upd_row w1.drew w.heap.size 0 L).range hHeld.2 (by omega)⟩) (fun _ => ?_)
  clear hK K
  refine wpAnyH_done (by kernel_rfl) ?_ _
  have hst : w1.drew.there w.heap.size 0 L.length := by rw [hlen]; exact hth
  clear hHeld d0 d1 d2 d3 d4 dr hth
  go_wp2
  exact bodyPost_ret (results_mid1 rfl _ _ w.heap.size 0 L _ rfl (World.rangeAt_setCells_same _ _ _ _ hst) Tryz.underlying58 rfl hfz) rfl ⟨rfl, HB.out _⟩
theorem zF_one : ([Value.int .i64 0, .int .i64 0, .int .i64 0, .int .i64 0, .int .i64 0, .int .i64 0, .int .i64 0, .int .i64 0, .int .i64 0, .int .i64 0, .int .i64 0, .int .i64 0, .int .i64 0].toArray).all (·.oneCell') = true := by simp [Value.oneCell']
set_option maxRecDepth 100000 in
set_option maxHeartbeats 2000000 in
theorem getF_any {w : World} (b : Bk) (hb : b.length = 64) (k : Nat) (ss : List Nat) (hss : (∀ s ∈ ss, 1 ≤ s ∧ s ≤ 7) ∧ ss.sum ≤ 59) (m : Nat) (hm : ss.length = m) (hm2 : m ≤ 100) (gs cl : Nat) (fm fb : Nat) (cm cb : Array Value) (tv : Value) (mb : Bool) (ds : List Value)
    (hds : (Tryz.prog.info? 58).map (·.size) = some ds.length) (hd1 : ∀ v ∈ ds, v.oneCell' = true) (hs : w.rangeAt gs 0 (ints (natsI ss))) (hN : Nib w)
    (entM : ∀ args w, (callFunc fm args).run Tryz.prog w = .ok (.enter fm args) w) (entB : ∀ args w, (callFunc fb args).run Tryz.prog w = .ok (.enter fb args) w)
    (hmay : ∀ W gl c, c = m → Below w.heap.size w W → W.rangeAt gl 0 (ints (natsI (numsAt b 1 ss))) → Calls Tryz.prog fm (#[.slice (some ⟨gl, 0, none⟩) m c] ++ cm) W fun e W' => e = .returned (.bool mb) ∧ Below W.heap.size W W')
    (hbuild : okGet b k ss mb = true → ∀ W gl c, c = m → Below w.heap.size w W → W.rangeAt gl 0 (ints (natsI (numsAt b 1 ss))) → Calls Tryz.prog fb (#[.slice (some ⟨gl, 0, none⟩) m c] ++ cb) W fun e W' => e = .returned (.agg ds.toArray) ∧ Below W.heap.size W W') :
    Calls Tryz.prog 165 #[.agg #[.int .i64 (k : Int), .slice (some ⟨gs, 0, none⟩) m cl, tv, .func (.func fm) #[] cm, .func (.func fb) #[] cb], .agg (bkC b).toArray] w
      (GetPost w (okGet b k ss mb) ds [Value.int .i64 0, .int .i64 0, .int .i64 0, .int .i64 0, .int .i64 0, .int .i64 0, .int .i64 0, .int .i64 0, .int .i64 0, .int .i64 0, .int .i64 0, .int .i64 0, .int .i64 0] (cdGet b k ss mb)) := by
  have H := Lib.hid (And.intro hs (And.intro hN (And.intro hmay (And.intro hbuild (And.intro hss hm)))))
  have HC := Lib.hid (And.intro hds (And.intro hd1 hb))
  clear hs hN hmay hbuild hss hm hds hd1 hb
  have hr : ((w.alloc (.cells #[.int .i64 (k : Int), .slice (some ⟨gs, 0, none⟩) m cl, tv, .func (.func fm) #[] cm, .func (.func fb) #[] cb] 258)).alloc (.cells (bkC b).toArray 23)).rangeAt (w.heap.size + 1) 0 (bkC b) := range_of_block (heap_alloc_last _ _ (by simp))
  go_enter Tryz.func165, Tryz.ntmps165
  go_wp2_with (first
    | (refine wpList_load_mid rfl _ _ rfl _ _ rfl _ _ (World.rangeAt_alloc (World.rangeAt_alloc hr _) _) Tryz.underlying23 rfl (sizeBk _ HC.out.2.2) ?_)
    | fail)
  show Calls _ _ _ ((((w.alloc (.cells #[.int .i64 (k : Int), .slice (some ⟨gs, 0, none⟩) m cl, tv, .func (.func fm) #[] cm, .func (.func fb) #[] cb] 258)).alloc (.cells (bkC b).toArray 23)).alloc (.cells [Value.int .i64 0, .int .i64 0, .int .i64 0, .int .i64 0, .int .i64 0, .int .i64 0, .int .i64 0, .int .i64 0, .int .i64 0, .int .i64 0, .int .i64 0, .int .i64 0, .int .i64 0].toArray 58)).alloc (.cells [Value.int .i64 0, .int .i64 0, .int .i64 0, .int .i64 0, .int .i64 0, .int .i64 0, .int .i64 0, .int .i64 0, .int .i64 0, .int .i64 0, .int .i64 0, .int .i64 0, .int .i64 0].toArray 58)) _
  obtain ⟨Z, hZ⟩ : ∃ Z : List Value, Z = [Value.int .i64 0, .int .i64 0, .int .i64 0, .int .i64 0, .int .i64 0, .int .i64 0, .int .i64 0, .int .i64 0, .int .i64 0, .int .i64 0, .int .i64 0, .int .i64 0, .int .i64 0] := ⟨_, rfl⟩
  rw [← hZ]
  have hZs : Hid (Z.toArray.size = 13) := by show _ = _; rw [hZ]; rfl
  have hZl : Hid (Z.length = 13) := by show _ = _; rw [hZ]; rfl
  have hsZ : Hid ((Tryz.prog.info? 58).map (·.size) = some Z.length) := by show _ = _; rw [hZ]; exact infoFz
  have hsA : Hid ((Tryz.prog.info? 58).map (·.size) = some Z.toArray.size) := by show _ = _; rw [hZ]; exact infoFz
  have hZ1 : Hid ((Z.toArray).all (·.oneCell') = true) := by show _ = _; rw [hZ]; exact zF_one
  have HZ := Lib.hid hZ
  clear hZ
  obtain ⟨h1, h2, h3, h4, h5, h6⟩ := four_new w (.cells #[.int .i64 (k : Int), .slice (some ⟨gs, 0, none⟩) m cl, tv, .func (.func fm) #[] cm, .func (.func fb) #[] cb] 258) (.cells (bkC b).toArray 23) (.cells Z.toArray 58) (.cells Z.toArray 58)
  clear hr
  generalize (((w.alloc (.cells #[.int .i64 (k : Int), .slice (some ⟨gs, 0, none⟩) m cl, tv, .func (.func fm) #[] cm, .func (.func fb) #[] cb] 258)).alloc (.cells (bkC b).toArray 23)).alloc (.cells Z.toArray 58)).alloc (.cells Z.toArray 58) = w4 at *
  refine (sealed_any b HC.out.2.2 (H.out.2.1.keep h6 (fun h => h))).mono ?_
  rintro e w5 ⟨rfl, hb5⟩
  have hu5 : Upd (fun _ => False) w4 w5 := Upd.of_below hb5
  have g1 := (hu5.block _ (lt_of_block h1) (fun h => h)).trans h1
  have g2 := (hu5.block _ (lt_of_block h2) (fun h => h)).trans h2
  have g3 := (hu5.block _ (lt_of_block h3) (fun h => h)).trans h3
  have g4 := (hu5.block _ (lt_of_block h4) (fun h => h)).trans h4
  have hz5 := hu5.size
  have H5 := Lib.hid (And.intro g1 (And.intro g2 (And.intro g3 (And.intro g4 (And.intro (h6.trans hu5) (And.intro h5 hz5))))))
  clear h1 h2 h3 h4 h5 h6 g1 g2 g3 g4 hu5 hb5 hz5
  by_cases hsl : sealB b = b
  · have hsc : sealedC b = 0 := if_pos hsl
    rw [hsc]
    clear hsc
    have HS := Lib.hid hsl
    clear hsl
    obtain ⟨g1, g2, g3, g4, u5, z4, z5⟩ := H5.out
    have r5 := range_of_block g2
    clear g1 g2 g3 g4 u5
    go_wp2_with (first
      | (refine wpList_load_mid rfl _ _ rfl _ _ rfl _ _ r5 Tryz.underlying23 rfl (sizeBk _ HC.out.2.2) ?_)
      | fail)
    refine (rread b HC.out.2.2).mono ?_
    rintro e w6 ⟨g, rfl, hR6, hge, hb6⟩
    have HX := Lib.hid (And.intro hR6 hb6)
    clear hR6 hb6
    go_wp2_with fail
    refine (rtake HX.out.1 1 (by decide) (by decide) (by decide)).mono ?_
    rintro e w7 ⟨rfl, hR7, hU7⟩
    obtain ⟨kb, hkb⟩ : ∃ kb, kb = numB ((b.drop 0).take 1) := ⟨_, rfl⟩
    rw [← hkb]
    have HK := Lib.hid hkb
    clear hkb
    obtain ⟨g1, g2, g3, g4, u5, z4, z5⟩ := H5.out
    obtain ⟨hs, hN, -, -, hss, hm⟩ := H.out
    have u57 : Upd (fun j => j = g) w5 w7 := ((Upd.of_below (S := fun _ => False) HX.out.2).mono (fun _ _ h => h.elim)).trans hU7
    have u7 : Upd (fun j => j = g) w w7 := (u5.mono (fun _ _ h => h.elim)).trans u57
    have hM7 : w.heap.size + 4 ≤ w7.heap.size := by have := u57.size; omega
    have gM : w.heap.size + 4 ≤ g := by omega
    have m1 : w7.cell? ⟨w.heap.size, 1, none⟩ = some (.slice (some ⟨gs, 0, none⟩) m cl) := u57.cellv (cell_of_block g1 1) (by omega)
    have a1 := (u57.block _ (lt_of_block g1) (by omega)).trans g1
    have a3 := (u57.block _ (lt_of_block g3) (by omega)).trans g3
    have a4 := (u57.block _ (lt_of_block g4) (by omega)).trans g4
    have gslt : gs < w.heap.size ∨ m = 0 := by
      rcases Nat.eq_zero_or_pos m with h | h
      · exact .inr h
      · exact .inl (World.block_lt_of_cell? w _ (hs 0 _ (natsI_get (by omega))))
    have hs7 : ∀ i (hi : i < ss.length), w7.cell? ⟨gs, i, none⟩ = some (.int .i64 (ss[i] : Int)) := fun i hi => by
      have := u7.cellv (hs i _ (natsI_get hi)) (by omega)
      rwa [Nat.zero_add] at this
    have hua : Upd (fun _ => False) w7 (w7.alloc (.cells (ints (List.replicate m 0)).toArray 3)) := (Upd.refl _ _).alloc _
    have hgL := heap_alloc_last w7 (.cells (ints (List.replicate m 0)).toArray 3) rfl
    have hmk := makeInts m (by omega) w7
    have hR8 := hR7.keep hua (fun h => h)
    have hglt := hR7.lt
    have m18 : (w7.alloc (.cells (ints (List.replicate m 0)).toArray 3)).cell? ⟨w.heap.size, 1, none⟩ = some (.slice (some ⟨gs, 0, none⟩) m cl) := hua.cellv m1 (fun h => h)
    have H8 := Lib.hid (And.intro hua (And.intro hgL (And.intro hR8 (And.intro a1 (And.intro a3 (And.intro a4 (And.intro hs7 (And.intro gslt (And.intro u7 (And.intro hss (And.intro hm hN)))))))))))
    clear g1 g2 g3 g4 u5 z4 hs hN hss hm u57 u7 a1 a3 a4 gslt hs7 hua hgL hR8 hU7 hR7 r5 z5
    go_wp2
    clear hmk m1
    generalize hW8 : w7.alloc (.cells (ints (List.replicate m 0)).toArray 3) = w8 at *
    have HW8 := Lib.hid hW8
    clear hW8
    generalize hL : w7.heap.size = L at *
    have HL := Lib.hid hL
    clear hL
    go_loopw [30] (fun s30 wr => ∃ i : Nat, i ≤ m ∧ s30 = .int .i64 i ∧ RdAt wr g b (1 + (ss.take i).sum) ∧ wr.heap[L]? = some (.cells (ints (fillI (numsAt b 1 ss) i)).toArray 3 (0, 0)) ∧ Upd (fun j => j = g ∨ j = L) w8 wr) (fun s30 _ => m - (intOf s30).toNat)
    case atStart => exact ⟨0, Nat.zero_le _, rfl, by simpa using H8.out.2.2.1, by rw [H8.out.2.1]; simp [fillI, natsI, numsAt_len, H8.out.2.2.2.2.2.2.2.2.2.2.1], Upd.refl _ _⟩
    case round =>
      obtain ⟨i, hi, rfl, hR, hL, hu⟩ := hrel
      obtain ⟨hua, hgL, hR8, a1, a3, a4, hs7, gslt, u7, hss, hm, hN⟩ := H8.out
      by_cases hlt : i < m
      · have hil : i < ss.length := by omega
        have x1 : wr.cell? ⟨gs, i, none⟩ = some (.int .i64 (ss[i] : Int)) := hu.cellv (hua.cellv (hs7 i hil) (fun h => h)) (by omega)
        have hsi := hss.1 ss[i] (List.getElem_mem hil)
        obtain ⟨t1, t2⟩ := sum_take ss hil
        have hng : ¬ L = g := by omega
        have hcx : ∃ v, wr.cell? ⟨L, i, none⟩ = some v := by
          rw [cell_of_block hL]
          exact ⟨_, Array.getElem?_eq_getElem (by rw [List.size_toArray, length_ints, fillI_len _ (by rw [numsAt_len]; omega), numsAt_len]; omega)⟩
        have hnx : Hid ((ints (fillI (numsAt b 1 ss) i)).toArray.setIfInBounds i (.int .i64 ((numB ((b.drop (1 + (ss.take i).sum)).take ss[i]) : Nat) : Int)) = (ints (fillI (numsAt b 1 ss) (i + 1))).toArray) := by
          show _ = _
          rw [List.setIfInBounds_toArray, ints_set, ← numsAt_get b 1 ss i hil, fillI_set _ (by rw [numsAt_len]; exact hil)]
        have hsum : Hid (1 + (ss.take (i + 1)).sum = 1 + (ss.take i).sum + ss[i]) := by show _ = _; omega
        have b1 : (0 : Int) ≤ (i : Int) ∧ (i : Int) < (m : Int) := by omega
        have hbd : 1 + (ss.take i).sum + ss[i] ≤ 60 := by omega
        have HX2 := Lib.hid (And.intro hR (And.intro hL (And.intro hu (And.intro hsi (And.intro hbd hcx)))))
        clear hua hgL hR8 a1 a3 a4 hs7 gslt u7 hss hm hN t1 t2 hR hL hu hcx hbd hsi
        obtain ⟨b1, b2⟩ := b1
        generalize ss[i] = si at *
        go_wp2_with fail
        refine (rtake HX2.out.1 si HX2.out.2.2.2.1.1 HX2.out.2.2.2.1.2 HX2.out.2.2.2.2.1).mono ?_
        rintro e w9 ⟨rfl, hR9, hU9⟩
        have hL9 := (hU9.block L (lt_of_block HX2.out.2.1) hng).trans HX2.out.2.1
        obtain ⟨v0, hv0⟩ := HX2.out.2.2.2.2.2
        have c9 := hU9.cellv hv0 hng
        have z9 := frozen_of_block hL9 i
        have hL10 := heap_setCell_same hL9 i (.int .i64 ((numB ((b.drop (1 + (ss.take i).sum)).take si) : Nat) : Int))
        rw [hnx.out] at hL10
        have hR10 := hR9.keep (upd_setCell w9 L i (.int .i64 ((numB ((b.drop (1 + (ss.take i).sum)).take si) : Nat) : Int))) (fun e => hng e.symm)
        rw [← hsum.out] at hR10
        have hU10 : Upd (fun j => j = g ∨ j = L) w8 (w9.setCell ⟨L, i, none⟩ (.int .i64 ((numB ((b.drop (1 + (ss.take i).sum)).take si) : Nat) : Int))) :=
          HX2.out.2.2.1.trans ((hU9.mono (fun _ _ h => .inl h)).trans ((upd_setCell _ _ _ _).mono (fun _ _ h => .inr h)))
        have HZ := Lib.hid (And.intro hR10 (And.intro hL10 hU10))
        clear hL9 hv0 hL10 hR10 hU10 hU9 hR9
        go_wp2
        go_roundw
        case rel => exact ⟨i + 1, by omega, by go_num, HZ.out.1, HZ.out.2.1, HZ.out.2.2⟩
        case measure => simp [intOf]; omega
      · obtain rfl : i = m := by omega
        rw [List.take_of_length_le (by omega)] at hR
        have hl5 : i = (numsAt b 1 ss).length := by rw [numsAt_len]; omega
        rw [show fillI (numsAt b 1 ss) i = natsI (numsAt b 1 ss) by rw [hl5]; exact fillI_all _] at hL
        clear hl5
        have u8r : Upd (fun j => j = g ∨ j = L) w7 wr := (hua.mono (fun _ _ h => h.elim)).trans hu
        have hLw : w.heap.size + 4 ≤ L := hM7
        have hlw : Below w.heap.size w wr := by
          refine below_upd (below_upd (Below.refl _ w) u7 (Nat.le_refl _) (fun k e => by omega)) u8r (Nat.le_refl _) (fun k e => by omega)
        have e1 := (u8r.block _ (lt_of_block a1) (by omega)).trans a1
        have e3 := (u8r.block _ (lt_of_block a3) (by omega)).trans a3
        have e4 := (u8r.block _ (lt_of_block a4) (by omega)).trans a4
        have hErr : ∀ W, Below wr.heap.size wr W → W.rangeAt (w.heap.size + 1 + 1 + 1) 0 Z ∧ W.there (w.heap.size + 1 + 1) 0 13 ∧ Below w.heap.size w W := fun W hW => by
          have f3 := (hW.block _ (lt_of_block e3)).trans e3
          refine ⟨range_of_block ((hW.block _ (lt_of_block e4)).trans e4), fun j hj => ?_, hlw.trans (hW.mono hlw.size)⟩
          rw [cell_of_block f3, frozen_of_block f3]
          exact ⟨by rw [Nat.zero_add, Array.getElem?_eq_getElem (by have := hZl.out; simp; omega)]; rfl, rfl⟩
        have m0 : wr.cell? ⟨w.heap.size, 0, none⟩ = some (.int .i64 (k : Int)) := cell_of_block e1 0
        have m3 : wr.cell? ⟨w.heap.size, 3, none⟩ = some (.func (.func fm) #[] cm) := cell_of_block e1 3
        have m4 : wr.cell? ⟨w.heap.size, 4, none⟩ = some (.func (.func fb) #[] cb) := cell_of_block e1 4
        have HE := Lib.hid (And.intro hErr (And.intro m3 (And.intro m4 (And.intro hR (And.intro (range_of_block hL) hlw)))))
        obtain ⟨rz, tz, hbz⟩ := hErr wr (Below.refl _ _)
        clear hua hgL hR8 a1 a3 a4 hs7 gslt u7 hss hm hN hR hL hu u8r hlw e1 e3 e4 hErr m3 m4
        by_cases hkk : kb = k
        · have hq : ((kb : Int) == (k : Int)) = true := by rw [hkk]; simp
          have hq2 : ((kb : Int) != (k : Int)) = false := by rw [hkk]; simp
          have HKK := Lib.hid hkk
          clear hkk rz tz hbz
          go_wp2_with fail
          refine (rend HE.out.2.2.2.1).mono ?_
          rintro e w10 ⟨rfl, hb10⟩
          obtain ⟨rz, tz, hbz⟩ := HE.out.1 w10 hb10
          have m3 := (Upd.of_below (S := fun _ => False) hb10).cellv HE.out.2.1 (fun h => h)
          have m4 := (Upd.of_below (S := fun _ => False) hb10).cellv HE.out.2.2.1 (fun h => h)
          have rL := Below.range hb10 HE.out.2.2.2.2.1
          have H10 := Lib.hid (And.intro hb10 (And.intro rL m4))
          clear rL m4 hb10
          have HBz := Lib.hid hbz
          clear hbz
          by_cases hen : endB b (1 + ss.sum) = true
          · have he0 : endC b (1 + ss.sum) = 0 := if_pos hen
            rw [he0]
            clear he0 rz tz
            have HEN := Lib.hid hen
            clear hen
            go_wp2_with fail
            refine (H.out.2.2.1 w10 L i rfl HBz.out H10.out.2.1).mono ?_
            rintro e w11 ⟨rfl, hb11⟩
            obtain ⟨rz, tz, hbz11⟩ := HE.out.1 w11 (H10.out.1.trans (hb11.mono H10.out.1.size))
            have m4 := (Upd.of_below (S := fun _ => False) hb11).cellv H10.out.2.2 (fun h => h)
            have rL := Below.range hb11 H10.out.2.1
            have HBz11 := Lib.hid hbz11
            have HRL := Lib.hid rL
            have HBz11b := Lib.hid hb11
            clear rL hbz11 hb11
            cases mb with
            | true =>
              have HR : Hid (okGet b k ss true = true) := by
                show _ = _
                simp only [okGet, HS.out, HEN.out, decide_true, Bool.true_and, Bool.and_true, decide_eq_true_eq]
                have := HK.out
                rw [List.drop_zero] at this
                rw [← this, HKK.out]
              clear rz tz
              go_wp2_with fail
              refine (H.out.2.2.2.1 HR.out w11 L i rfl HBz11.out HRL.out).mono ?_
              rintro e w12 ⟨rfl, hb12⟩
              obtain ⟨-, tz, hbz12⟩ := HE.out.1 w12 ((H10.out.1.trans ((HBz11b.out).mono H10.out.1.size)).trans (hb12.mono (by have := H10.out.1.size; have := HBz11b.out.size; omega)))
              have hdl : ds.length = 13 := by have h1 := HC.out.1; rw [infoFz] at h1; injection h1 with h1; exact h1.symm
              have hst : w12.there (w.heap.size + 1 + 1) 0 ds.toArray.size := by rw [show ds.toArray.size = 13 by simpa using hdl]; exact tz
              have hst2 : w12.there (w.heap.size + 1 + 1) 0 ds.length := by rw [hdl]; exact tz
              have hsz2 : (Tryz.prog.info? 58).map (·.size) = some ds.toArray.size := by rw [show ds.toArray.size = 13 by simpa using hdl]; exact infoFz
              have HST := Lib.hid (And.intro hst (And.intro hsz2 (And.intro hst2 hbz12)))
              clear hst hsz2 hst2 hdl hbz12 tz hb12
              go_wp2_with (first
                | (refine wpList_store_mid rfl _ _ _ rfl _ _ ds.toArray rfl rfl HST.out.1 HST.out.2.1 (all_oneCell_toArray HC.out.2.1) ?_)
                | fail)
              exact bodyPost_ret (results_mid2 rfl _ _ (w.heap.size + 1 + 1) 0 ds _ rfl (World.rangeAt_setCells_same _ _ _ _ HST.out.2.2.1) Tryz.underlying58 rfl HC.out.1) rfl
                ⟨⟨ds, fun _ => rfl, fun h => (by rw [HR.out] at h; cases h), by rw [show cdGet b k ss true = 0 from if_pos HR.out]; rfl⟩, below_upd HST.out.2.2.2 (upd_row _ (w.heap.size + 1 + 1) 0 _) (Nat.le_refl _) (fun k e => by omega)⟩
            | false =>
              have HR : Hid (okGet b k ss false = false) := by show _ = _; simp [okGet]
              go_wp2_with (first
                | (refine wpList_load_mid rfl _ _ rfl _ _ rfl _ _ rz Tryz.underlying58 rfl hsZ.out ?_)
                | (refine wpList_store_mid rfl _ _ _ rfl _ _ Z.toArray rfl rfl (by rw [hZs.out]; exact tz) hsA.out hZ1.out ?_)
                | fail)
              exact bodyPost_ret (results_mid2 rfl _ _ (w.heap.size + 1 + 1) 0 Z _ rfl (World.rangeAt_setCells_same _ _ _ _ (by first | (rw [hZs.out]; exact tz) | (rw [hZl.out]; exact tz))) Tryz.underlying58 rfl hsZ.out) rfl
                ⟨⟨_, fun h => (by rw [HR.out] at h; cases h), fun _ => rfl, by rw [okGet_no HS.out HR.out, HZ.out]; rfl⟩, below_upd HBz11.out (upd_row _ (w.heap.size + 1 + 1) 0 _) (Nat.le_refl _) (fun k e => by omega)⟩
          · have he0 : endC b (1 + ss.sum) = 12 := if_neg hen
            rw [he0]
            clear he0
            have HR : Hid (okGet b k ss mb = false) := by show _ = _; simp [okGet, hen]
            clear hen
            go_wp2_with (first
              | (refine wpList_load_mid rfl _ _ rfl _ _ rfl _ _ rz Tryz.underlying58 rfl hsZ.out ?_)
              | (refine wpList_store_mid rfl _ _ _ rfl _ _ Z.toArray rfl rfl (by rw [hZs.out]; exact tz) hsA.out hZ1.out ?_)
              | fail)
            exact bodyPost_ret (results_mid2 rfl _ _ (w.heap.size + 1 + 1) 0 Z _ rfl (World.rangeAt_setCells_same _ _ _ _ (by first | (rw [hZs.out]; exact tz) | (rw [hZl.out]; exact tz))) Tryz.underlying58 rfl hsZ.out) rfl
              ⟨⟨_, fun h => (by rw [HR.out] at h; cases h), fun _ => rfl, by rw [okGet_no HS.out HR.out, HZ.out]; rfl⟩, below_upd HBz.out (upd_row _ (w.heap.size + 1 + 1) 0 _) (Nat.le_refl _) (fun k e => by omega)⟩
        · have hq : ((kb : Int) == (k : Int)) = false := by rw [beq_eq_false_iff_ne]; omega
          have hq2 : ((kb : Int) != (k : Int)) = true := by rw [bne_iff_ne]; omega
          have HR : Hid (okGet b k ss mb = false) := by
            show _ = _
            have := HK.out
            rw [List.drop_zero] at this
            simp [okGet, ← this, hkk]
          have HBz := Lib.hid hbz
          clear hkk hbz
          go_wp2_with (first
            | (refine wpList_load_mid rfl _ _ rfl _ _ rfl _ _ rz Tryz.underlying58 rfl hsZ.out ?_)
            | (refine wpList_store_mid rfl _ _ _ rfl _ _ Z.toArray rfl rfl (by rw [hZs.out]; exact tz) hsA.out hZ1.out ?_)
            | fail)
          exact bodyPost_ret (results_mid2 rfl _ _ (w.heap.size + 1 + 1) 0 Z _ rfl (World.rangeAt_setCells_same _ _ _ _ (by first | (rw [hZs.out]; exact tz) | (rw [hZl.out]; exact tz))) Tryz.underlying58 rfl hsZ.out) rfl
            ⟨⟨_, fun h => (by rw [HR.out] at h; cases h), fun _ => rfl, by rw [okGet_no HS.out HR.out, HZ.out]; rfl⟩, below_upd HBz.out (upd_row _ (w.heap.size + 1 + 1) 0 _) (Nat.le_refl _) (fun k e => by omega)⟩
  · have hsc : sealedC b = 13 := if_neg hsl
    have hres := okGet_seal (k := k) (ss := ss) (mb := mb) hsl
    rw [hsc]
    have HR := Lib.hid hres
    clear hsc hsl hres
    obtain ⟨g1, g2, g3, g4, u5, z4, z5⟩ := H5.out
    have r4 := range_of_block g4
    have hth : w5.there (w.heap.size + 1 + 1) 0 13 := fun j hj => by
      rw [cell_of_block g3, frozen_of_block g3]
      exact ⟨by rw [Nat.zero_add, Array.getElem?_eq_getElem (by have := hZl.out; simp; omega)]; rfl, rfl⟩
    have HU := Lib.hid u5
    clear g1 g2 g3 g4 u5 z4 z5
    go_wp2_with (first
      | (refine wpList_load_mid rfl _ _ rfl _ _ rfl _ _ r4 Tryz.underlying58 rfl hsZ.out ?_)
      | (refine wpList_store_mid rfl _ _ _ rfl _ _ Z.toArray rfl rfl (by rw [hZs.out]; exact hth) hsA.out hZ1.out ?_)
      | fail)
    refine bodyPost_ret (results_mid2 rfl _ _ (w.heap.size + 1 + 1) 0 Z _ rfl (World.rangeAt_setCells_same _ _ _ _ (by first | (rw [hZs.out]; exact hth) | (rw [hZl.out]; exact hth))) Tryz.underlying58 rfl hsZ.out) rfl
      ⟨⟨_, fun h => (by rw [HR.out.1] at h; cases h), fun _ => rfl, by rw [HR.out.2, HZ.out]; rfl⟩, below_upd (Upd.below HU.out) (upd_row w5 (w.heap.size + 1 + 1) 0 _) (Nat.le_refl _) (fun k e => by omega)⟩
def numsF (b : Bk) : List Nat := numsAt b 1 [6, 6, 2, 2, 1, 3, 3, 3, 3, 3, 3, 3, 3]
def okF (b : Bk) : Bool := okGet b 6 [6, 6, 2, 2, 1, 3, 3, 3, 3, 3, 3, 3, 3] (mayF (natsI (numsF b)))
def cdF (b : Bk) : Int := cdGet b 6 [6, 6, 2, 2, 1, 3, 3, 3, 3, 3, 3, 3, 3] (mayF (natsI (numsF b)))
def GetFPost (w : World) (b : Bk) : Ending → World → Prop := GetPost w (okF b) (ints (natsI (numsF b))) [Value.int .i64 0, .int .i64 0, .int .i64 0, .int .i64 0, .int .i64 0, .int .i64 0, .int .i64 0, .int .i64 0, .int .i64 0, .int .i64 0, .int .i64 0, .int .i64 0, .int .i64 0] (cdF b)
set_option maxRecDepth 100000 in
theorem getF_form {w : World} {gs gt : Nat} (hF : FormF w gs gt) (hN : Nib w) (b : Bk) (hb : b.length = 64) :
    Calls Tryz.prog 165 #[formFV gs gt, .agg (bkC b).toArray] w (GetFPost w b) := by
  obtain ⟨hs, v, hv, hB⟩ := hF
  refine getF_any (w := w) b hb 6 [6, 6, 2, 2, 1, 3, 3, 3, 3, 3, 3, 3, 3] ⟨by simp, by decide⟩ 13 rfl (by decide) gs 13 204 206 #[.pointer (some ⟨gt, 0, none⟩)] #[] (.func (.func 203) #[] #[]) (mayF (natsI (numsF b))) (ints (natsI (numsF b)))
    (by rw [length_ints]; exact infoFz) (fun v hv => by simp only [ints, List.mem_map] at hv; obtain ⟨x, -, rfl⟩ := hv; rfl) hs hN (fun _ _ => rfl) (fun _ _ => rfl) ?_ ?_
  · intro W gl c hc hW hr
    subst hc
    exact mayF_any _ (by show (natsI (numsAt b 1 _)).length = 13; simp [natsI, numsAt_len]) (Nat.le_refl _) (by decide) ((Upd.of_below (S := fun _ => False) hW).cellv hv (fun h => h)) (hB.below hW) hr
  · intro _ W gl c hc hW hr
    subst hc
    exact buildF _ (by show (natsI (numsAt b 1 _)).length = 13; simp [natsI, numsAt_len]) hr
set_option maxRecDepth 100000 in
set_option maxHeartbeats 1000000 in
theorem GetF_any {w : World} (hN : Nib w) (b : Bk) (hb : b.length = 64) :
    Calls Tryz.prog 108 #[.agg (bkC b).toArray] w (GetFPost w b) := by
  have HN := Lib.hid hN
  have Hb := Lib.hid hb
  clear hN hb
  go_enter Tryz.func108, Tryz.ntmps108
  go_wp2_with fail
  change Code.wp _ _ _ _ ((w.alloc (.cells (bkC b).toArray 23)).alloc (.cells [Value.int .i64 0, .int .i64 0, .int .i64 0, .int .i64 0, .int .i64 0, .int .i64 0, .int .i64 0, .int .i64 0, .int .i64 0, .int .i64 0, .int .i64 0, .int .i64 0, .int .i64 0].toArray 58))
  have hr : ((w.alloc (.cells (bkC b).toArray 23)).alloc (.cells [Value.int .i64 0, .int .i64 0, .int .i64 0, .int .i64 0, .int .i64 0, .int .i64 0, .int .i64 0, .int .i64 0, .int .i64 0, .int .i64 0, .int .i64 0, .int .i64 0, .int .i64 0].toArray 58)).rangeAt w.heap.size 0 (bkC b) := World.rangeAt_alloc (range_of_block (heap_alloc_last w _ rfl)) _
  have hg : ((w.alloc (.cells (bkC b).toArray 23)).alloc (.cells [Value.int .i64 0, .int .i64 0, .int .i64 0, .int .i64 0, .int .i64 0, .int .i64 0, .int .i64 0, .int .i64 0, .int .i64 0, .int .i64 0, .int .i64 0, .int .i64 0, .int .i64 0].toArray 58)).heap[w.heap.size + 1]? = some (.cells [Value.int .i64 0, .int .i64 0, .int .i64 0, .int .i64 0, .int .i64 0, .int .i64 0, .int .i64 0, .int .i64 0, .int .i64 0, .int .i64 0, .int .i64 0, .int .i64 0, .int .i64 0].toArray 58) := heap_alloc_last _ _ (by simp)
  have hu : Upd (fun _ => False) w ((w.alloc (.cells (bkC b).toArray 23)).alloc (.cells [Value.int .i64 0, .int .i64 0, .int .i64 0, .int .i64 0, .int .i64 0, .int .i64 0, .int .i64 0, .int .i64 0, .int .i64 0, .int .i64 0, .int .i64 0, .int .i64 0, .int .i64 0].toArray 58)) := ((Upd.refl _ w).alloc _).alloc _
  generalize (w.alloc (.cells (bkC b).toArray 23)).alloc (.cells [Value.int .i64 0, .int .i64 0, .int .i64 0, .int .i64 0, .int .i64 0, .int .i64 0, .int .i64 0, .int .i64 0, .int .i64 0, .int .i64 0, .int .i64 0, .int .i64 0, .int .i64 0].toArray 58) = w2 at *
  have hb2 : Below w.heap.size w w2 := Upd.below hu
  refine wp_region_held_drew (S := fun W => W.rangeAt w.heap.size 0 (bkC b)) (by kernel_rfl) (by rw [World.rangeAt_drew]; exact hr) (fun hHeld => ?_)
  refine' wpAnyH_take (i := 1) rfl (by kernel_rfl) (by kernel_rfl) (by kernel_rfl) (fun _ _ _ h => h) (yieldsIf_load_mid (by rfl) _ _ rfl _ _ rfl _ _ (fun w h => h) Tryz.underlying23 rfl (sizeBk _ Hb.out)) hHeld _
  simp only [List.getElem_toArray, List.getElem_cons_succ, List.getElem_cons_zero, Act.put, List.setIfInBounds_toArray, List.set_cons_zero, List.set_cons_succ]
  refine wpAnyH_ready (rs := [0]) (by kernel_rfl) (by simp) ?_
  refine AllReadyH.cons rfl (fun K hK => ?_) AllReadyH.nil
  go_simp
  refine (failures_any _).mono ?_
  rintro e w3 ⟨gs, gt, rfl, hF, hb3⟩
  have hb3' : Below w2.heap.size w2 w3 := bundrew' hb3
  refine hK.out _ _ (Below.range hb3 hHeld) (fun hHeld2 => ?_)
  clear hK K
  refine wpAnyH_ready (rs := [2]) (by kernel_rfl) (by simp) ?_
  refine AllReadyH.cons rfl (fun K hK => ?_) AllReadyH.nil
  go_simp
  refine (getF_form hF ((HN.out.keep hu (fun h => h)).below hb3') b Hb.out).mono ?_
  rintro e w4 ⟨⟨rs, hr1, hr2, rfl⟩, hb4⟩
  have hb4' : Below w2.heap.size w2 w4 := hb3'.trans (hb4.mono hb3'.size)
  have hg4 := (hb4'.block _ (lt_of_block hg)).trans hg
  have hth : w4.there (w.heap.size + 1) 0 13 := fun j hj => by
    rw [cell_of_block hg4, frozen_of_block hg4]
    exact ⟨by rw [Nat.zero_add, Array.getElem?_eq_getElem (by simpa using hj)]; rfl, rfl⟩
  have hrl : rs.length = 13 ∧ ∀ v ∈ rs, v.oneCell' = true := by
    cases hk : okF b with
    | true => rw [hr1 hk]; exact ⟨by rw [length_ints]; rfl, fun v hv => by simp only [ints, List.mem_map] at hv; obtain ⟨x, -, rfl⟩ := hv; rfl⟩
    | false => rw [hr2 hk]; exact ⟨rfl, fun v hv => by simp at hv; subst hv; rfl⟩
  have hst : w4.there (w.heap.size + 1) 0 rs.toArray.size := by rw [show rs.toArray.size = 13 by simpa using hrl.1]; exact hth
  have hst2 : w4.there (w.heap.size + 1) 0 rs.length := by rw [hrl.1]; exact hth
  have hsz2 : (Tryz.prog.info? 58).map (·.size) = some rs.toArray.size := by rw [show rs.toArray.size = 13 by simpa using hrl.1]; exact infoFz
  have hsz3 : (Tryz.prog.info? 58).map (·.size) = some rs.length := by rw [hrl.1]; exact infoFz
  have hU5 : Below w.heap.size w (w4.setCells (w.heap.size + 1) 0 rs) := below_upd (hb2.trans (hb4'.mono hu.size)) (upd_row w4 (w.heap.size + 1) 0 _) (Nat.le_refl _) (fun k e => by omega)
  refine hK.out _ _ (Below.range hb4 hHeld2) (fun hHeld3 => ?_)
  clear hK K
  refine wpAnyH_take (i := 3) (v := ?_) rfl (by kernel_rfl) (by kernel_rfl) (by kernel_rfl) (fun _ _ _ h => h) (Or.inl ⟨by rfl, ?_⟩) hHeld3 ?_
  rotate_left
  · intro W hSw; (try dsimp only at hSw); (try go_split_ands); go_simp; (try with_reducible rfl)
  simp only [List.getElem_toArray, List.getElem_cons_succ, List.getElem_cons_zero, Act.put, List.setIfInBounds_toArray, List.set_cons_zero, List.set_cons_succ]
  refine wpAnyH_take (i := 4) (v := ?_) rfl (by kernel_rfl) (by kernel_rfl) (by kernel_rfl) (fun _ _ _ h => h) (Or.inl ⟨by rfl, ?_⟩) hHeld3 ?_
  rotate_left
  · intro W hSw; (try dsimp only at hSw); (try go_split_ands); go_simp; (try with_reducible rfl)
  simp only [List.getElem_toArray, List.getElem_cons_succ, List.getElem_cons_zero, Act.put, List.setIfInBounds_toArray, List.set_cons_zero, List.set_cons_succ]
  refine wpAnyH_ready (rs := [5]) (by kernel_rfl) (by simp) ?_
  refine AllReadyH.cons rfl (fun K hK => ?_) AllReadyH.nil
  rw [if_pos (by rfl)]
  refine wp_store_mid _ _ _ rfl _ _ (List.toArray _) rfl rfl (hst) (hsz2) (all_oneCell_toArray hrl.2) ?_
  simp only [Act.put, List.setIfInBounds_toArray]
  refine hK.out _ _ ((upd_row w4 (w.heap.size + 1) 0 rs).range hHeld3 (by omega)) (fun hHeld4 => ?_)
  clear hK K
  refine wpAnyH_ready (rs := [6]) (by kernel_rfl) (by simp) ?_
  refine AllReadyH.cons rfl (fun K hK => ?_) AllReadyH.nil
  go_simp
  refine hK.out _ _ (hHeld4) (fun _ => ?_)
  clear hK K
  refine wpAnyH_done (by kernel_rfl) ?_ _
  have HE := Lib.hid (And.intro hU5 (And.intro hst2 (And.intro hsz3 (And.intro hr1 hr2))))
  clear hst hst2 hsz2 hsz3 hU5 hth hg4 hb4 hb4' hb3 hb3' hHeld hHeld2 hHeld3 hHeld4 hF hr hg hu hb2 hr1 hr2 hrl
  go_wp2
  exact bodyPost_ret (results_mid2 rfl _ _ (w.heap.size + 1) 0 rs _ rfl (World.rangeAt_setCells_same _ _ _ _ HE.out.2.1) Tryz.underlying58 rfl HE.out.2.2.1) rfl ⟨⟨rs, HE.out.2.2.2.1, HE.out.2.2.2.2, rfl⟩, HE.out.1⟩
set_option maxRecDepth 100000 in
set_option maxHeartbeats 2000000 in
theorem tellF {w : World} (xs : List Int) (hxl : xs.length = 13) :
    Calls Tryz.prog 203 #[.agg (ints xs).toArray] w (TellPostC w 13 xs) := by
  obtain ⟨i0, hi, hz0, hz1, hz2⟩ := info_parts infoIn1
  obtain ⟨L, hL⟩ : ∃ L, L = (ints xs).toArray := ⟨_, rfl⟩
  have hg := heap_alloc_last w (.cells L 58) rfl
  have hr : (w.alloc (.cells L 58)).rangeAt w.heap.size 0 (ints xs) := fun j v hv => by
    rw [cell_of_block hg, hL, Nat.zero_add, List.getElem?_toArray]; exact hv
  have c0 := cellF hr 0 (by omega)
  have c1 := cellF hr 1 (by omega)
  have c2 := cellF hr 2 (by omega)
  have c3 := cellF hr 3 (by omega)
  have c4 := cellF hr 4 (by omega)
  have hr5 := ints_drop (k := 5) hr
  simp only [Nat.zero_add] at c0 c1 c2 c3 c4 hr5
  have hcat : Hid ([xs.getD 0 0, xs.getD 1 0, xs.getD 2 0, xs.getD 3 0, xs.getD 4 0] ++ xs.drop 5 = xs) := by
    show _ = _
    match xs, hxl with
    | [_, _, _, _, _, _, _, _, _, _, _, _, _], _ => rfl
  have hd8 : Hid ((xs.drop 5).length = 8) := by show _ = _; rw [List.length_drop]; omega
  rw [← hL]
  generalize xs.getD 0 0 = x0 at *
  generalize xs.getD 1 0 = x1 at *
  generalize xs.getD 2 0 = x2 at *
  generalize xs.getD 3 0 = x3 at *
  generalize xs.getD 4 0 = x4 at *
  have hb1 : Below w.heap.size w (w.alloc (.cells L 58)) := (Below.refl _ w).alloc (Nat.le_refl _) _
  have hlt : (w.alloc (.cells L 58)).heap.size = w.heap.size + 1 := by simp
  have HL := Lib.hid hL
  clear hL hg hr hxl
  go_enter Tryz.func203, Tryz.ntmps203
  go_wp2_with fail
  generalize w.alloc (.cells L 58) = w1 at *
  have hown : (w1.drew.alloc (.cells #[.int .i64 x0, .int .i64 x1, .int .i64 x2, .int .i64 x3, .int .i64 x4] 3)).ownsRow (w.heap.size + 1) 3 1 (.slice (some ⟨w1.heap.size, 0, none⟩) 5 5) 5 (ints [x0, x1, x2, x3, x4]) := by
    exact ⟨by simp, .inr ⟨w1.heap.size, 5, _, rfl, by omega, heap_alloc_last _ _ (by simp), by omega, by unfold maxLen; omega, by simp, by simp [ints]⟩⟩
  have hra : ∀ j u, (ints (xs.drop 5))[j]? = some u → (w1.drew.alloc (.cells #[.int .i64 x0, .int .i64 x1, .int .i64 x2, .int .i64 x3, .int .i64 x4] 3)).cell? ((⟨w.heap.size, 5, none⟩ : Addr).add j) = some u := fun j u hj => by
    rw [Addr.add_lit]
    exact cell_keep_alloc (by rw [World.cell?_drew]; exact hr5 j u hj) _
  obtain ⟨v', w2, hrun, ho1, hgr, -⟩ := run_append_own (P := Tryz.prog) (w := w1.drew.alloc (.cells #[.int .i64 x0, .int .i64 x1, .int .i64 x2, .int .i64 x3, .int .i64 x4] 3)) (w.heap.size + 1) 100 100 3 i0 (.int .i64 0) 1 8 Tryz.underlying100 hi hz0 hz1 hz2 rfl (by decide) (.slice (some ⟨w1.heap.size, 0, none⟩) 5 5) 5 _ hown ⟨w.heap.size, 5, none⟩ 8 8 (ints (xs.drop 5)) (by rw [length_ints, hd8.out])
    hra (ints_oneF _) (by unfold maxLen; omega) (by omega) (by simp; omega)
  have hgu : Upd (fun j => w.heap.size + 1 ≤ j) _ w2 := Upd.of_grown (S := fun j => w.heap.size + 1 ≤ j) hgr (fun g hg _ => (hown.lt g hg).1)
  have hb2 : Below w.heap.size w w2 := below_upd ((below_drewN hb1 1).alloc (by show w.heap.size ≤ w1.heap.size; omega) _) (Upd.of_grown (S := fun j => w.heap.size ≤ j) hgr (fun g hg _ => by have := (hown.lt g hg).1; omega)) (Nat.le_refl _) (fun k h => h)
  have HF := Lib.hid (And.intro ho1 hb2)
  rw [hlt] at hrun
  have HH := Lib.hid (And.intro hrun hgu)
  clear hown hra ho1 hgr hb2 hb1 hr5 hrun hgu
  refine wp_region_held_drew (S := fun W => W.cell? ⟨w.heap.size, 0, none⟩ = some (.int .i64 x0) ∧ W.cell? ⟨w.heap.size, 1, none⟩ = some (.int .i64 x1) ∧ W.cell? ⟨w.heap.size, 2, none⟩ = some (.int .i64 x2) ∧ W.cell? ⟨w.heap.size, 3, none⟩ = some (.int .i64 x3) ∧ W.cell? ⟨w.heap.size, 4, none⟩ = some (.int .i64 x4)) (by kernel_rfl) (by (simp only [World.cell?_drew]); exact ⟨c0, c1, c2, c3, c4⟩) (fun hHeld => ?_)
  refine wpAnyH_take (i := 0) (v := ?_) rfl (by kernel_rfl) (by kernel_rfl) (by kernel_rfl) (fun _ _ _ h => h) (Or.inl ⟨by rfl, ?_⟩) hHeld ?_
  rotate_left
  · intro W hSw; (try dsimp only at hSw); (try go_split_ands); go_simp; (try with_reducible rfl)
  simp only [List.getElem_toArray, List.getElem_cons_zero, Act.put, List.setIfInBounds_toArray, List.set_cons_zero, List.set_cons_succ]
  refine wpAnyH_take (i := 1) (v := ?_) rfl (by kernel_rfl) (by kernel_rfl) (by kernel_rfl) (fun _ _ _ h => h) (Or.inl ⟨by rfl, ?_⟩) hHeld ?_
  rotate_left
  · intro W hSw; (try dsimp only at hSw); (try go_split_ands); go_simp; (try with_reducible rfl)
  simp only [List.getElem_toArray, List.getElem_cons_succ, List.getElem_cons_zero, Act.put, List.setIfInBounds_toArray, List.set_cons_zero, List.set_cons_succ]
  refine wpAnyH_take (i := 2) (v := ?_) rfl (by kernel_rfl) (by kernel_rfl) (by kernel_rfl) (fun _ _ _ h => h) (Or.inl ⟨by rfl, ?_⟩) hHeld ?_
  rotate_left
  · intro W hSw; (try dsimp only at hSw); (try go_split_ands); go_simp; (try with_reducible rfl)
  simp only [List.getElem_toArray, List.getElem_cons_succ, List.getElem_cons_zero, Act.put, List.setIfInBounds_toArray, List.set_cons_zero, List.set_cons_succ]
  refine wpAnyH_take (i := 3) (v := ?_) rfl (by kernel_rfl) (by kernel_rfl) (by kernel_rfl) (fun _ _ _ h => h) (Or.inl ⟨by rfl, ?_⟩) hHeld ?_
  rotate_left
  · intro W hSw; (try dsimp only at hSw); (try go_split_ands); go_simp; (try with_reducible rfl)
  simp only [List.getElem_toArray, List.getElem_cons_succ, List.getElem_cons_zero, Act.put, List.setIfInBounds_toArray, List.set_cons_zero, List.set_cons_succ]
  refine wpAnyH_take (i := 4) (v := ?_) rfl (by kernel_rfl) (by kernel_rfl) (by kernel_rfl) (fun _ _ _ h => h) (Or.inl ⟨by rfl, ?_⟩) hHeld ?_
  rotate_left
  · intro W hSw; (try dsimp only at hSw); (try go_split_ands); go_simp; (try with_reducible rfl)
  simp only [List.getElem_toArray, List.getElem_cons_succ, List.getElem_cons_zero, Act.put, List.setIfInBounds_toArray, List.set_cons_zero, List.set_cons_succ]
  refine wpAnyH_take (i := 5) (v := ?_) rfl (by kernel_rfl) (by kernel_rfl) (by kernel_rfl) (fun _ _ _ h => h) (Or.inl ⟨by rfl, ?_⟩) hHeld ?_
  rotate_left
  · intro W hSw; (try dsimp only at hSw); (try go_split_ands); go_simp; (try with_reducible rfl)
  simp only [List.getElem_toArray, List.getElem_cons_succ, List.getElem_cons_zero, Act.put, List.setIfInBounds_toArray, List.set_cons_zero, List.set_cons_succ]
  refine wpAnyH_take (i := 6) (v := ?_) rfl (by kernel_rfl) (by kernel_rfl) (by kernel_rfl) (fun _ _ _ h => h) (Or.inl ⟨by rfl, ?_⟩) hHeld ?_
  rotate_left
  · intro W hSw; (try dsimp only at hSw); (try go_split_ands); go_simp; (try with_reducible rfl)
  simp only [List.getElem_toArray, List.getElem_cons_succ, List.getElem_cons_zero, Act.put, List.setIfInBounds_toArray, List.set_cons_zero, List.set_cons_succ]
  refine wpAnyH_take (i := 7) (v := ?_) rfl (by kernel_rfl) (by kernel_rfl) (by kernel_rfl) (fun _ _ _ h => h) (Or.inl ⟨by rfl, ?_⟩) hHeld ?_
  rotate_left
  · intro W hSw; (try dsimp only at hSw); (try go_split_ands); go_simp; (try with_reducible rfl)
  simp only [List.getElem_toArray, List.getElem_cons_succ, List.getElem_cons_zero, Act.put, List.setIfInBounds_toArray, List.set_cons_zero, List.set_cons_succ]
  refine wpAnyH_take (i := 8) (v := ?_) rfl (by kernel_rfl) (by kernel_rfl) (by kernel_rfl) (fun _ _ _ h => h) (Or.inl ⟨by rfl, ?_⟩) hHeld ?_
  rotate_left
  · intro W hSw; (try dsimp only at hSw); (try go_split_ands); go_simp; (try with_reducible rfl)
  simp only [List.getElem_toArray, List.getElem_cons_succ, List.getElem_cons_zero, Act.put, List.setIfInBounds_toArray, List.set_cons_zero, List.set_cons_succ]
  refine wpAnyH_take (i := 9) (v := ?_) rfl (by kernel_rfl) (by kernel_rfl) (by kernel_rfl) (fun _ _ _ h => h) (Or.inl ⟨by rfl, ?_⟩) hHeld ?_
  rotate_left
  · intro W hSw; (try dsimp only at hSw); (try go_split_ands); go_simp; (try with_reducible rfl)
  simp only [List.getElem_toArray, List.getElem_cons_succ, List.getElem_cons_zero, Act.put, List.setIfInBounds_toArray, List.set_cons_zero, List.set_cons_succ]
  refine wpAnyH_take (i := 10) (v := ?_) rfl (by kernel_rfl) (by kernel_rfl) (by kernel_rfl) (fun _ _ _ h => h) (Or.inl ⟨by rfl, ?_⟩) hHeld ?_
  rotate_left
  · intro W hSw; (try dsimp only at hSw); (try go_split_ands); go_simp; (try with_reducible rfl)
  simp only [List.getElem_toArray, List.getElem_cons_succ, List.getElem_cons_zero, Act.put, List.setIfInBounds_toArray, List.set_cons_zero, List.set_cons_succ]
  refine wpAnyH_take (i := 11) (v := ?_) rfl (by kernel_rfl) (by kernel_rfl) (by kernel_rfl) (fun _ _ _ h => h) (Or.inl ⟨by rfl, ?_⟩) hHeld ?_
  rotate_left
  · intro W hSw; (try dsimp only at hSw); (try go_split_ands); go_simp; (try with_reducible rfl)
  simp only [List.getElem_toArray, List.getElem_cons_succ, List.getElem_cons_zero, Act.put, List.setIfInBounds_toArray, List.set_cons_zero, List.set_cons_succ]
  refine wpAnyH_take (i := 13) (v := ?_) rfl (by kernel_rfl) (by kernel_rfl) (by kernel_rfl) (fun _ _ _ h => h) (Or.inl ⟨by rfl, ?_⟩) hHeld ?_
  rotate_left
  · intro W hSw; (try dsimp only at hSw); (try go_split_ands); go_simp; (try with_reducible rfl)
  simp only [List.getElem_toArray, List.getElem_cons_succ, List.getElem_cons_zero, Act.put, List.setIfInBounds_toArray, List.set_cons_zero, List.set_cons_succ]
  refine wpAnyH_take (i := 14) (v := ?_) rfl (by kernel_rfl) (by kernel_rfl) (by kernel_rfl) (fun _ _ _ h => h) (Or.inl ⟨by rfl, ?_⟩) hHeld ?_
  rotate_left
  · intro W hSw; (try dsimp only at hSw); (try go_split_ands); go_simp; (try with_reducible rfl)
  simp only [List.getElem_toArray, List.getElem_cons_succ, List.getElem_cons_zero, Act.put, List.setIfInBounds_toArray, List.set_cons_zero, List.set_cons_succ]
  refine wpAnyH_ready (rs := [12]) (by kernel_rfl) (by simp) ?_
  refine AllReadyH.cons rfl (fun K hK => ?_) AllReadyH.nil
  go_simp
  show K _ (w1.drew.alloc (.cells #[.int .i64 x0, .int .i64 x1, .int .i64 x2, .int .i64 x3, .int .i64 x4] 3))
  refine hK.out _ _ (⟨cell_keep_alloc hHeld.1 _, cell_keep_alloc hHeld.2.1 _, cell_keep_alloc hHeld.2.2.1 _, cell_keep_alloc hHeld.2.2.2.1 _, cell_keep_alloc hHeld.2.2.2.2 _⟩) (fun hH2 => ?_)
  clear hK K
  refine wpAnyH_ready (rs := [15]) (by kernel_rfl) (by simp) ?_
  refine AllReadyH.cons rfl (fun K hK => ?_) AllReadyH.nil
  refine step_append_run rfl _ _ _ rfl rfl rfl HH.out.1 ?_
  simp only [Act.put, List.setIfInBounds_toArray]
  refine hK.out _ _ (⟨HH.out.2.cellv hH2.1 (by omega), HH.out.2.cellv hH2.2.1 (by omega), HH.out.2.cellv hH2.2.2.1 (by omega), HH.out.2.cellv hH2.2.2.2.1 (by omega), HH.out.2.cellv hH2.2.2.2.2 (by omega)⟩) (fun hH3 => ?_)
  clear hK K
  refine wpAnyH_ready (rs := [16]) (by kernel_rfl) (by simp) ?_
  refine AllReadyH.cons rfl (fun K hK => ?_) AllReadyH.nil
  go_simp
  refine hK.out _ _ (hH3) (fun _ => ?_)
  clear hK K
  refine wpAnyH_done (by kernel_rfl) ?_ _
  clear hHeld hH2 hH3
  go_wp2
  go_ret
  obtain ⟨⟨hl, ⟨_, h0⟩ | ⟨g, cap, cur, rfl, -, hg, hn, hcm, hs, ht⟩⟩, hb⟩ := HF.out
  · omega
  · refine ⟨g, cap, rfl, hn, hcm, fun j v hv => ?_, hb⟩
    rw [cell_of_block hg, ← Array.getElem?_toList, Nat.zero_add]
    have hv' : (cur.toList.take ((5 + 8) * 1))[j]? = some v := by rw [ht]; rw [← hcat.out] at hv; simpa [ints] using hv
    rw [List.getElem?_take] at hv'
    split at hv'
    · exact hv'
    · cases hv'
set_option maxRecDepth 100000 in
theorem tellsOpen3 : TellsF 109 := by
  refine ⟨fun _ _ => rfl, fun W a xs hx hl => ?_⟩
  have hg := heap_alloc_last W (.cells xs.toArray 58) rfl
  have c0 : (W.alloc (.cells xs.toArray 58)).cell? ⟨W.heap.size, 0, none⟩ = some (.int .i64 a) := (cell_of_block hg 0).trans (by rw [List.getElem?_toArray]; exact hx)
  have hb : Below W.heap.size W (W.alloc (.cells xs.toArray 58)) := (Below.refl _ _).alloc (Nat.le_refl _) _
  have HB := Lib.hid hb
  clear hg hb hx hl
  go_enter Tryz.func109, Tryz.ntmps109
  go_wp2
  go_ret
  exact ⟨rfl, HB.out⟩
def kindF : Kind := ⟨okF, fun v => ints (natsI (numsF v)), cdF, fun v => ((numsF v).getD 0 0 : Nat)⟩
abbrev zsF : List Value := [Value.int .i64 0, .int .i64 0, .int .i64 0, .int .i64 0, .int .i64 0, .int .i64 0, .int .i64 0, .int .i64 0, .int .i64 0, .int .i64 0, .int .i64 0, .int .i64 0, .int .i64 0]
theorem kindF_ok : ∀ v : Bk, v.length = 64 → (kindF.ok v = true → kindF.cd v = 0) ∧ (kindF.ok v = false → kindF.cd v ≠ 0) ∧ (kindF.ds v).length = 13 ∧ (∀ u ∈ kindF.ds v, u.oneCell' = true) ∧ (kindF.ds v)[0]? = some (.int .i64 (kindF.nm v)) := by
  intro v _
  refine ⟨fun h => if_pos h, fun h => ?_, by simp [kindF, natsI, numsF, numsAt_len], fun u hu => by simp only [kindF, ints, List.mem_map] at hu; obtain ⟨x, -, rfl⟩ := hu; rfl, rfl⟩
  show cdF v ≠ 0
  have h' : okGet v 6 [6, 6, 2, 2, 1, 3, 3, 3, 3, 3, 3, 3, 3] (mayF (natsI (numsF v))) = false := h
  unfold cdF cdGet
  rw [h']
  simp
  split <;> decide
theorem kindF_get : ∀ W v, v.length = 64 → Nib W → Calls Tryz.prog 108 #[.agg (bkC v).toArray] W (GetPost W (kindF.ok v) (kindF.ds v) zsF (kindF.cd v)) := fun _W v hv hN => GetF_any hN v hv
theorem putFa {S : Nat → Prop} {w : World} {l b base n fi : Nat} {F : List Bk} {O : List (Nat × Bk)} {P : List Int} (hl : LogF w l b base n fi) (hd : Dv S w b F O P) (hn : ∀ j, w.heap.size ≤ j → S j) (hSl : ¬ S l) (hN : Nib w)
    (hSN : ¬ S 0) (hfi : TellsF fi) (hbn : base + n ≤ F.length) (hO : O.length < 65000) (x : Int) (xs : List Int) (hx : (x :: xs).length = 13) :
    Calls Tryz.prog 25 #[.pointer (some ⟨l, 0, none⟩), .agg (ints (x :: xs)).toArray] w (Out S w b (logPutR (mayF (x :: xs)) base n x (sectF (x :: xs)) F O P)) :=
  have hz : (ints (x :: xs)).length = 13 := by rw [length_ints]; exact hx
  putF_log hl hd hn hSl hN hSN hfi hbn hO (ints (x :: xs)) x rfl (by rw [hz]; exact infoFa) _ _ (sectF_len hx) (fun W hW => (PutF_any hW (ints (x :: xs)) hz (x :: xs) hx (fun W => tellF _ hx)).mono (fun e w' ⟨h, hb⟩ => by
    rcases h with ⟨h1, rfl⟩ | ⟨h1, rfl⟩
    · exact ⟨_, 0, .inl ⟨h1, rfl, rfl⟩, rfl, hb⟩
    · exact ⟨_, 10, .inr ⟨h1, rfl, rfl⟩, rfl, hb⟩))
theorem allFa {S : Nat → Prop} {w : World} {l b base n fi : Nat} {F : List Bk} {O : List (Nat × Bk)} (hl : LogF w l b base n fi) (hd : Dv S w b F O []) (hn : ∀ j, w.heap.size ≤ j → S j) (hSl : ¬ S l) (hN : Nib w)
    (hSN : ¬ S 0) (hfi : TellsF fi) (hbn : base + n ≤ F.length) :
    Calls Tryz.prog 66 #[.pointer (some ⟨l, 0, none⟩)] w (AllOut S w b l F O 58 13 kindF zsF base n) :=
  allF_log hl hd hn hSl hN hSN hfi hbn kindF kindF_ok kindF_get
end Go.Proofs.YtnadilfobmgebaaGreatDoor
