/- A log: Put. -/
import Derived.Test.YtnadilfobmgebaaGreatDoorG23
import Derived.Test.YtnadilfobmgebaaGreatDoorG03
namespace Go.Proofs.YtnadilfobmgebaaGreatDoor
open Go Go.RowKit
def putR (F : List Bk) (O : List (Nat × Bk)) (P : List Int) (s : Nat) (y : Bk) : DRes :=
  if fate P = 1 then ⟨F, O, P.tail, 19⟩ else if curB F O s = y then flushR F O P.tail else if curB F O s ≠ zB then ⟨F, O, P.tail, 15⟩ else
    if (writeR F O P.tail s y).cd ≠ 0 then writeR F O P.tail s y else flushR (writeR F O P.tail s y).F (writeR F O P.tail s y).O (writeR F O P.tail s y).P
def logPutR (mb : Bool) (base n : Nat) (a : Int) (y : Bk) (F : List Bk) (O : List (Nat × Bk)) (P : List Int) : DRes :=
  if mb = false then ⟨F, O, P, 10⟩ else if a < 0 ∨ (n : Int) ≤ a then ⟨F, O, P, 17⟩ else putR F O P (base + a.toNat) y
theorem there_of_block {w : World} {p : Nat} {cs : Array Value} {t : TypeId} (h : w.heap[p]? = some (.cells cs t (0, 0))) {n : Nat} (hn : n ≤ cs.size) : w.there p 0 n := fun j hj => by
  rw [cell_of_block h, frozen_of_block h]
  exact ⟨by rw [Nat.zero_add, Array.getElem?_eq_getElem (by omega)]; rfl, rfl⟩
theorem block_setCells {w : World} {p : Nat} {x y : Bk} {t : TypeId} (h : w.heap[p]? = some (.cells (bkC x).toArray t (0, 0))) (hx : x.length = 64) (hy : y.length = 64) : (w.setCells p 0 (bkC y)).heap[p]? = some (.cells (bkC y).toArray t (0, 0)) := by
  obtain ⟨cur', h2, h3, h4⟩ := heap_setCells_same (bkC y) 0 w p _ t (0, 0) h
  rw [h2]
  have : cur' = (bkC y).toArray := by
    apply Array.ext_getElem?
    intro k
    have e : (bkC y).toArray[k]? = (bkC y)[k]? := by simp
    rw [h4 k, e, bkC_len, hy, bkC_size _ hx]
    by_cases hk : k < 64
    · rw [if_pos ⟨by omega, by omega, by omega⟩]; rfl
    · rw [if_neg (by omega), Array.getElem?_eq_none (by rw [bkC_size _ hx]; omega), List.getElem?_eq_none (by rw [bkC_len, hy]; omega)]
  rw [this]
def PutMeet (w1 : World) (mb : Bool) (y : Bk) (s5 s6 : Value) (wx : World) : Prop :=
  ∃ p z cd, s5 = .pointer (some ⟨p, 0, none⟩) ∧ s6 = .int .i64 cd ∧ wx.heap[p]? = some (.cells (bkC z).toArray 23 (0, 0)) ∧ w1.heap.size ≤ p ∧ Below w1.heap.size w1 wx ∧ z.length = 64 ∧ ((mb = true ∧ z = y ∧ cd = 0) ∨ (mb = false ∧ cd = 10))
def ReadMeet (T : Nat → Prop) (b : Nat) (F : List Bk) (O : List (Nat × Bk)) (P : List Int) (s : Nat) (w2 : World) (s8 s6 : Value) (wx : World) : Prop :=
  ∃ q z cd, s8 = .pointer (some ⟨q, 0, none⟩) ∧ s6 = .int .i64 cd ∧ wx.heap[q]? = some (.cells (bkC z).toArray 23 (0, 0)) ∧ w2.heap.size ≤ q ∧ z = (if fate P = 1 then zB else curB F O s) ∧ cd = (if fate P = 1 then 19 else 0) ∧ z.length = 64 ∧
    Dv (fun j => T j ∧ j ≠ q) wx b F O P.tail ∧ Upd T w2 wx
set_option maxRecDepth 100000 in
set_option maxHeartbeats 4000000 in
theorem putI_log {S : Nat → Prop} {w : World} {l b base n fi : Nat} {F : List Bk} {O : List (Nat × Bk)} {P : List Int} (hl : LogI w l b base n fi) (hd : Dv S w b F O P) (hn : ∀ j, w.heap.size ≤ j → S j) (hSl : ¬ S l) (hN : Nib w)
    (hSN : ¬ S 0) (hfi : TellsI fi) (hbn : base + n ≤ F.length) (hO : O.length < 65000) (xs : List Value) (a : Int) (hx0 : xs[0]? = some (.int .i64 a)) (hx : (Tryz.prog.info? 39).map (·.size) = some xs.length)
    (mb : Bool) (y : Bk) (hy : y.length = 64) (hput : ∀ W, Nib W → Calls Tryz.prog 20 #[.agg xs.toArray] W (GuardPost W (fun ys cd => (mb = true ∧ ys = bkC y ∧ cd = 0) ∨ (mb = false ∧ ys = bkC zB ∧ cd = 10)))) :
    Calls Tryz.prog 23 #[.pointer (some ⟨l, 0, none⟩), .agg xs.toArray] w (Out S w b (logPutR mb base n a y F O P)) := by
  have hu1 : Upd (fun _ => False) w (w.alloc (.cells xs.toArray 39)) := (Upd.refl _ w).alloc _
  have hr1 := range_of_block (heap_alloc_last w (.cells xs.toArray 39) rfl)
  have hs1 : (w.alloc (.cells xs.toArray 39)).heap.size = w.heap.size + 1 := by simp
  have hl1 := hl.keep hu1 (fun h => h)
  have hN1 := hN.keep hu1 (fun h => h)
  have hfl := hd.good.fl
  have H := Lib.hid (And.intro hd (And.intro hn (And.intro hSl (And.intro hSN (And.intro hfi (And.intro hx0 (And.intro hx (And.intro hy hput))))))))
  have HL := Lib.hid (And.intro hl1 (And.intro hN1 (And.intro hu1 (And.intro hr1 hs1))))
  obtain ⟨c0, c1, c2, c3, -, -⟩ := hl1.c
  have C := Lib.hid (And.intro c0 (And.intro c1 c2))
  clear hl hd hn hSl hN hSN hfi hx0 hx hy hput hl1 hN1 hu1 c0 c1 c2
  go_enter Tryz.func23, Tryz.ntmps23
  go_wp2_with fail
  generalize w.alloc (.cells xs.toArray 39) = w1 at *
  obtain ⟨m, Hm⟩ : ∃ m, Hid (m = w.heap.size) := ⟨_, rfl⟩
  rw [← Hm.out]
  rw [← Hm.out] at hr1
  clear hs1
  go_cut [5, 6] (fun s5 s6 wx => PutMeet w1 mb y s5 s6 wx)
  case first =>
    refine wp_region_held_drew (S := fun W => W.cell? ⟨l, 3, none⟩ = some (.func (.func 20) #[] #[]) ∧ W.rangeAt m 0 xs) (by kernel_rfl) (⟨by rw [World.cell?_drew]; exact c3, by rw [World.rangeAt_drew]; exact hr1⟩) (fun hHeld => ?_)
    refine tk (i := 0) (v := ?_) rfl ?_ hHeld ?_
    rotate_left
    · intro W hSw; (try dsimp only at hSw); (try go_split_ands); go_simp; (try with_reducible rfl)
    simp only [List.getElem_toArray, List.getElem_cons_zero, Act.put, List.setIfInBounds_toArray, List.set_cons_zero, List.set_cons_succ]
    refine tk (i := 1) (v := ?_) rfl ?_ hHeld ?_
    rotate_left
    · intro W hSw; (try dsimp only at hSw); (try go_split_ands); go_simp; (try with_reducible rfl)
    simp only [List.getElem_toArray, List.getElem_cons_succ, List.getElem_cons_zero, Act.put, List.setIfInBounds_toArray, List.set_cons_zero, List.set_cons_succ]
    refine tk (i := 2) (v := ?_) rfl ?_ hHeld ?_
    rotate_left
    · intro W hSw; (try dsimp only at hSw); (try go_split_ands); go_simp; (try with_reducible rfl)
    simp only [List.getElem_toArray, List.getElem_cons_succ, List.getElem_cons_zero, Act.put, List.setIfInBounds_toArray, List.set_cons_zero, List.set_cons_succ]
    refine tk (i := 3) (v := ?_) rfl ?_ hHeld ?_
    rotate_left
    · intro W hSw; (try dsimp only at hSw); (try go_split_ands); go_simp; (try with_reducible rfl)
    simp only [List.getElem_toArray, List.getElem_cons_succ, List.getElem_cons_zero, Act.put, List.setIfInBounds_toArray, List.set_cons_zero, List.set_cons_succ]
    refine' wpAnyH_take (i := 4) rfl (by kernel_rfl) (by kernel_rfl) (by kernel_rfl) (fun _ _ _ h => h) (yieldsIf_load_mid (by rfl) _ _ rfl _ _ rfl _ _ (fun w h => h.2) Tryz.underlying39 rfl H.out.2.2.2.2.2.2.1) hHeld _
    simp only [List.getElem_toArray, List.getElem_cons_succ, List.getElem_cons_zero, Act.put, List.setIfInBounds_toArray, List.set_cons_zero, List.set_cons_succ]
    refine wpAnyH_ready (rs := [5, 9]) (by kernel_rfl) (by simp) ?_
    refine AllReadyH.cons rfl (fun K hK => ?_) (AllReadyH.cons rfl (fun K hK => ?_) AllReadyH.nil)
    · go_simp
      refine (guardIB xs H.out.2.2.2.2.2.2.1 20 #[] (fun _ _ => rfl) _ (fun ys cd h => by rcases h with ⟨-, rfl, -⟩ | ⟨-, rfl, -⟩; exact ⟨by rw [bkC_len, H.out.2.2.2.2.2.2.2.1], bkC_one _⟩; exact ⟨by rw [bkC_len, zB_len], bkC_one _⟩) (fun W hW => H.out.2.2.2.2.2.2.2.2 W (((HL.out.2.1.keep ((Upd.refl (fun _ => False) _).drew) (fun h => h)).below hW)))).mono ?_
      rintro e w3 ⟨ys, cd, hR, rfl, hb3⟩
      obtain ⟨z, hz, rfl, hR2⟩ : ∃ z : Bk, z.length = 64 ∧ ys = bkC z ∧ ((mb = true ∧ z = y ∧ cd = 0) ∨ (mb = false ∧ cd = 10)) := by
        rcases hR with ⟨h1, rfl, h2⟩ | ⟨h1, rfl, h2⟩
        · exact ⟨y, H.out.2.2.2.2.2.2.2.1, rfl, .inl ⟨h1, rfl, h2⟩⟩
        · exact ⟨zB, zB_len, rfl, .inr ⟨h1, h2⟩⟩
      clear hR
      refine hK.out _ _ (⟨(Upd.of_below (S := fun _ => False) hb3).cellv hHeld.1 (fun h => h), Below.range hb3 hHeld.2⟩) (fun hHeld2 => ?_)
      clear hK K
      refine tk (i := 6) (v := ?_) rfl ?_ hHeld2 ?_
      rotate_left
      · intro W hSw; (try dsimp only at hSw); (try go_split_ands); go_simp; (try with_reducible rfl)
      simp only [List.getElem_toArray, List.getElem_cons_succ, List.getElem_cons_zero, Act.put, List.setIfInBounds_toArray, List.set_cons_zero, List.set_cons_succ]
      refine tk (i := 7) (v := ?_) rfl ?_ hHeld2 ?_
      rotate_left
      · intro W hSw; (try dsimp only at hSw); (try go_split_ands); go_simp; (try with_reducible rfl)
      simp only [List.getElem_toArray, List.getElem_cons_succ, List.getElem_cons_zero, Act.put, List.setIfInBounds_toArray, List.set_cons_zero, List.set_cons_succ]
      refine tk (i := 8) (v := ?_) rfl ?_ hHeld2 ?_
      rotate_left
      · intro W hSw; (try dsimp only at hSw); (try go_split_ands); go_simp; (try with_reducible rfl)
      simp only [List.getElem_toArray, List.getElem_cons_succ, List.getElem_cons_zero, Act.put, List.setIfInBounds_toArray, List.set_cons_zero, List.set_cons_succ]
      refine wpAnyH_ready (rs := [9]) (by kernel_rfl) (by simp) ?_
      refine AllReadyH.cons rfl (fun K hK => ?_) AllReadyH.nil
      go_simp
      show K _ (w3.alloc (.cells (bkC zB).toArray 23))
      have hg4 := heap_alloc_last w3 (.cells (bkC zB).toArray 23) rfl
      have hu4 : Upd (fun _ => False) w3 (w3.alloc (.cells (bkC zB).toArray 23)) := (Upd.refl _ _).alloc _
      have hsz4 : w1.heap.size ≤ w3.heap.size := hb3.size
      have hB4 : Below w1.heap.size w1 (w3.alloc (.cells (bkC zB).toArray 23)) := (bundrew' hb3).alloc hsz4 _
      have hlm : m < w3.heap.size ∧ l < w3.heap.size := by have h1 := HL.out.1.lt; have h2 := HL.out.2.2.2.2; have h3 := Hm.out; constructor <;> omega
      refine hK.out _ _ (⟨hu4.cellv hHeld2.1 (fun h => h), hu4.range hHeld2.2 (fun h => h)⟩) (fun hHeld3 => ?_)
      clear hK K
      generalize w3.heap.size = p at *
      generalize w3.alloc (.cells (bkC zB).toArray 23) = w4 at *
      refine wpAnyH_ready (rs := [10]) (by kernel_rfl) (by simp) ?_
      refine AllReadyH.cons rfl (fun K hK => ?_) AllReadyH.nil
      rw [if_pos (by rfl)]
      refine wp_store_mid _ _ _ rfl _ _ (List.toArray _) rfl rfl (by rw [bkC_size _ hz]; exact there_of_block hg4 (by rw [bkC_size _ zB_len]; exact Nat.le_refl _)) (by rw [bkC_size _ hz]; exact sizeBk') (all_oneCell_toArray (bkC_one _)) ?_
      simp only [Act.put, List.setIfInBounds_toArray]
      refine hK.out _ _ (⟨cell_keep_setCells hHeld3.1 (by omega), (upd_row w4 p 0 (bkC z)).range hHeld3.2 (by omega)⟩) (fun hHeld4 => ?_)
      clear hK K
      refine wpAnyH_ready (rs := [11]) (by kernel_rfl) (by simp) ?_
      refine AllReadyH.cons rfl (fun K hK => ?_) AllReadyH.nil
      go_simp
      refine hK.out _ _ (hHeld4) (fun _ => ?_)
      clear hK K
      refine wpAnyH_done (by kernel_rfl) ?_ _
      clear hHeld4
      go_wp2_with fail
      go_meet
      case rel => exact ⟨p, z, cd, rfl, rfl, block_setCells hg4 zB_len hz, by omega, below_upd hB4 (upd_row w4 p 0 (bkC z)) (Nat.le_refl _) (fun k e => by omega), hz, hR2⟩
    · go_simp
      show K _ (w1.drew.alloc (.cells (bkC zB).toArray 23))
      have hg2 : (w1.drew.alloc (.cells (bkC zB).toArray 23)).heap[w1.heap.size]? = some (.cells (bkC zB).toArray 23) := heap_alloc_last w1.drew _ rfl
      have hu2 : Upd (fun _ => False) w1.drew (w1.drew.alloc (.cells (bkC zB).toArray 23)) := (Upd.refl _ _).alloc _
      have hB2 : Below w1.heap.size w1 (w1.drew.alloc (.cells (bkC zB).toArray 23)) := (below_drewN (Below.refl _ w1) 1).alloc (Nat.le_refl _) _
      have hN2 := (HL.out.2.1.keep ((Upd.refl (fun _ => False) _).drew) (fun h => h)).keep hu2 (fun h => h)
      have hlm : m < w1.heap.size ∧ l < w1.heap.size := by have h1 := HL.out.1.lt; have h2 := HL.out.2.2.2.2; have h3 := Hm.out; constructor <;> omega
      refine hK.out _ _ (⟨hu2.cellv hHeld.1 (fun h => h), hu2.range hHeld.2 (fun h => h)⟩) (fun hHeld2 => ?_)
      clear hK K
      generalize w1.drew.alloc (.cells (bkC zB).toArray 23) = w2 at *
      refine wpAnyH_ready (rs := [5]) (by kernel_rfl) (by simp) ?_
      refine AllReadyH.cons rfl (fun K hK => ?_) AllReadyH.nil
      go_simp
      refine (guardIB xs H.out.2.2.2.2.2.2.1 20 #[] (fun _ _ => rfl) _ (fun ys cd h => by rcases h with ⟨-, rfl, -⟩ | ⟨-, rfl, -⟩; exact ⟨by rw [bkC_len, H.out.2.2.2.2.2.2.2.1], bkC_one _⟩; exact ⟨by rw [bkC_len, zB_len], bkC_one _⟩) (fun W hW => H.out.2.2.2.2.2.2.2.2 W ((hN2.below hW)))).mono ?_
      rintro e w3 ⟨ys, cd, hR, rfl, hb3⟩
      obtain ⟨z, hz, rfl, hR2⟩ : ∃ z : Bk, z.length = 64 ∧ ys = bkC z ∧ ((mb = true ∧ z = y ∧ cd = 0) ∨ (mb = false ∧ cd = 10)) := by
        rcases hR with ⟨h1, rfl, h2⟩ | ⟨h1, rfl, h2⟩
        · exact ⟨y, H.out.2.2.2.2.2.2.2.1, rfl, .inl ⟨h1, rfl, h2⟩⟩
        · exact ⟨zB, zB_len, rfl, .inr ⟨h1, h2⟩⟩
      clear hR
      have hg4 := (hb3.block w1.heap.size (lt_of_block hg2)).trans hg2
      have hB4 : Below w1.heap.size w1 w3 := hB2.trans (hb3.mono hB2.size)
      refine hK.out _ _ (⟨(Upd.of_below (S := fun _ => False) hb3).cellv hHeld2.1 (fun h => h), Below.range hb3 hHeld2.2⟩) (fun hHeld3 => ?_)
      clear hK K
      refine tk (i := 6) (v := ?_) rfl ?_ hHeld3 ?_
      rotate_left
      · intro W hSw; (try dsimp only at hSw); (try go_split_ands); go_simp; (try with_reducible rfl)
      simp only [List.getElem_toArray, List.getElem_cons_succ, List.getElem_cons_zero, Act.put, List.setIfInBounds_toArray, List.set_cons_zero, List.set_cons_succ]
      refine tk (i := 7) (v := ?_) rfl ?_ hHeld3 ?_
      rotate_left
      · intro W hSw; (try dsimp only at hSw); (try go_split_ands); go_simp; (try with_reducible rfl)
      simp only [List.getElem_toArray, List.getElem_cons_succ, List.getElem_cons_zero, Act.put, List.setIfInBounds_toArray, List.set_cons_zero, List.set_cons_succ]
      refine tk (i := 8) (v := ?_) rfl ?_ hHeld3 ?_
      rotate_left
      · intro W hSw; (try dsimp only at hSw); (try go_split_ands); go_simp; (try with_reducible rfl)
      simp only [List.getElem_toArray, List.getElem_cons_succ, List.getElem_cons_zero, Act.put, List.setIfInBounds_toArray, List.set_cons_zero, List.set_cons_succ]
      refine wpAnyH_ready (rs := [10]) (by kernel_rfl) (by simp) ?_
      refine AllReadyH.cons rfl (fun K hK => ?_) AllReadyH.nil
      rw [if_pos (by rfl)]
      refine wp_store_mid _ _ _ rfl _ _ (List.toArray _) rfl rfl (by rw [bkC_size _ hz]; exact there_of_block hg4 (by rw [bkC_size _ zB_len]; exact Nat.le_refl _)) (by rw [bkC_size _ hz]; exact sizeBk') (all_oneCell_toArray (bkC_one _)) ?_
      simp only [Act.put, List.setIfInBounds_toArray]
      refine hK.out _ _ (⟨cell_keep_setCells hHeld3.1 (by omega), (upd_row w3 w1.heap.size 0 (bkC z)).range hHeld3.2 (by omega)⟩) (fun hHeld4 => ?_)
      clear hK K
      refine wpAnyH_ready (rs := [11]) (by kernel_rfl) (by simp) ?_
      refine AllReadyH.cons rfl (fun K hK => ?_) AllReadyH.nil
      go_simp
      refine hK.out _ _ (hHeld4) (fun _ => ?_)
      clear hK K
      refine wpAnyH_done (by kernel_rfl) ?_ _
      clear hHeld4
      go_wp2_with fail
      go_meet
      case rel => exact ⟨w1.heap.size, z, cd, rfl, rfl, block_setCells hg4 zB_len hz, Nat.le_refl _, below_upd hB4 (upd_row w3 w1.heap.size 0 (bkC z)) (Nat.le_refl _) (fun k e => by omega), hz, hR2⟩
  case rest =>
    obtain ⟨p, z, cd, rfl, rfl, hgp, hp, hBx, hz, hR⟩ := hcut
    obtain ⟨hl1, hN1, hu1, hr1', hs1⟩ := HL.out
    have hmw : m < w1.heap.size := by have := Hm.out; omega
    have hlc := hl1.below hBx
    have hNc := hN1.below hBx
    have hrc : wc.rangeAt m 0 xs := Below.range hBx (by rw [Hm.out]; exact hr1')
    have huc : Upd (fun _ => False) w wc := hu1.trans (Upd.of_below hBx)
    have hpc := lt_of_block hgp
    have hcc := hBx.size
    rcases hR with ⟨hmb, rfl, rfl⟩ | ⟨hmb, rfl⟩
    · have HM := Lib.hid (And.intro hmb (And.intro hz (And.intro hgp (And.intro hBx (And.intro hlc (And.intro hNc (And.intro huc (And.intro hp (And.intro hpc hcc)))))))))
      clear hmb hz hgp hBx hlc hNc huc hp hpc hl1 hN1 hu1 hr1' hs1 hcc
      go_wp2_with (first
        | (refine wpList_load_mid rfl _ _ rfl _ _ rfl _ _ hrc Tryz.underlying39 rfl H.out.2.2.2.2.2.2.1 ?_)
        | fail)
      refine (numberI HM.out.2.2.2.2.1 H.out.2.2.2.2.1 a xs H.out.2.2.2.2.2.1 H.out.2.2.2.2.2.2.1).mono ?_
      rintro e w6 ⟨rfl, hb6⟩
      obtain ⟨hmb, hz, hgp, hBx, hlc, hNc, huc, hp, hpc, hcc⟩ := HM.out
      have hl6 := hlc.below hb6
      have hg6 := (hb6.block p hpc).trans hgp
      have hu6 : Upd (fun _ => False) w w6 := huc.trans (Upd.of_below hb6)
      have hz6 := hb6.size
      obtain ⟨hd, hn, hSl, hSN, -⟩ := H.out
      have hmw0 := Hm.out
      have hd6 : Dv (fun j => (S j ∧ j ≠ m) ∧ j ≠ p) w6 b F O P := ((((hd.but (q := m) (by omega)).keep HL.out.2.2.1 (fun _ _ h => h)).but hp).keep (Upd.of_below (S := fun _ => False) hBx) (fun _ _ h => h)).keep (Upd.of_below (S := fun _ => False) hb6) (fun _ _ h => h)
      have hn6 : ∀ j, w6.heap.size ≤ j → (S j ∧ j ≠ m) ∧ j ≠ p := fun j hj => ⟨⟨hn j (by have := hu6.size; omega), by omega⟩, by omega⟩
      obtain ⟨T, hT⟩ : ∃ T : Nat → Prop, T = fun j => (S j ∧ j ≠ m) ∧ j ≠ p := ⟨_, rfl⟩
      have hTS : ∀ j, T j → S j := fun j h => by rw [hT] at h; exact h.1.1
      have hTp : ¬ T p := fun h => by rw [hT] at h; exact h.2 rfl
      have hTl : ¬ T l := fun h => hSl (hTS l h)
      rw [← hT] at hd6
      replace hn6 : ∀ j, w6.heap.size ≤ j → T j := fun j hj => by rw [hT]; exact hn6 j hj
      obtain ⟨c0, c1, c2, -⟩ := hl6.c
      have hl6lt := hl6.lt
      have HT := Lib.hid (And.intro hTS (And.intro hTp (And.intro hTl (And.intro hd6 (And.intro hn6 (And.intro hu6 (And.intro hg6 (And.intro hl6 (And.intro hz hmb)))))))))
      have hp6 : p < w6.heap.size := by omega
      clear hT hTS hTp hTl hd6 hn6 hu6 hg6 hl6 hlc hNc huc hBx hgp hb6 hd hn hSl hSN hz hmb hp hpc hcc hz6 hmw0 hrc
      by_cases hout : a < 0 ∨ (n : Int) ≤ a
      · have hres : Hid (logPutR mb base n a z F O P = ⟨F, O, P, 17⟩) := by show _ = _; rw [logPutR, HT.out.2.2.2.2.2.2.2.2.2, if_neg (by simp), if_pos hout]
        have hfin : Hid (Dv S w6 b F O P ∧ Upd S w w6) := ⟨HT.out.2.2.2.1.wide HT.out.1, HT.out.2.2.2.2.2.1.mono (fun _ _ h => h.elim)⟩
        by_cases h0 : a < 0
        · have q1 : decide (a < 0) = true := by simpa using h0
          clear h0 hout
          go_wp2
          go_ret
          rw [hres.out]
          exact ⟨rfl, hfin.out.1, hfin.out.2⟩
        · have q1 : decide (a < 0) = false := by simpa using h0
          have q2 : decide ((n : Int) ≤ a) = true := by simp; omega
          clear h0 hout
          go_wp2
          go_ret
          rw [hres.out]
          exact ⟨rfl, hfin.out.1, hfin.out.2⟩
      · obtain ⟨an, han⟩ : ∃ an : Nat, a = (an : Int) := ⟨a.toNat, by omega⟩
        have hann : an < n := by omega
        have q1 : decide ((an : Int) < 0) = false := by simp
        have q2 : decide ((n : Int) ≤ (an : Int)) = false := by simp; omega
        have hres : Hid (logPutR mb base n a z F O P = putR F O P (base + an) z) := by show _ = _; rw [logPutR, HT.out.2.2.2.2.2.2.2.2.2, if_neg (by simp), if_neg hout, han, Int.toNat_natCast]
        have HA := Lib.hid han
        rw [han]
        clear hout han
        go_wp2
        go_cut [8, 6] (fun s8 s6 wx => ReadMeet T b F O P (base + an) w6 s8 s6 wx)
        case first =>
          have e1 : IntKind.i64.wrap ((base : Int) + (an : Int)) = ((base + an : Nat) : Int) := IntWalk.i64_in _ (by omega)
          refine wp_region_held_drew (S := fun W => W.cell? ⟨l, 0, none⟩ = some (.pointer (some ⟨b, 0, none⟩)) ∧ W.cell? ⟨l, 1, none⟩ = some (.int .i64 (base : Int))) (by kernel_rfl) (⟨by rw [World.cell?_drew]; exact c0, by rw [World.cell?_drew]; exact c1⟩) (fun hHeld => ?_)
          refine tk (i := 0) (v := ?_) rfl ?_ hHeld ?_
          rotate_left
          · intro W hSw; (try dsimp only at hSw); (try go_split_ands); go_simp; (try with_reducible rfl)
          simp only [List.getElem_toArray, List.getElem_cons_zero, Act.put, List.setIfInBounds_toArray, List.set_cons_zero, List.set_cons_succ]
          refine tk (i := 1) (v := ?_) rfl ?_ hHeld ?_
          rotate_left
          · intro W hSw; (try dsimp only at hSw); (try go_split_ands); go_simp; (try with_reducible rfl)
          simp only [List.getElem_toArray, List.getElem_cons_succ, List.getElem_cons_zero, Act.put, List.setIfInBounds_toArray, List.set_cons_zero, List.set_cons_succ]
          refine tk (i := 2) (v := ?_) rfl ?_ hHeld ?_
          rotate_left
          · intro W hSw; (try dsimp only at hSw); (try go_split_ands); go_simp; (try with_reducible rfl)
          simp only [List.getElem_toArray, List.getElem_cons_succ, List.getElem_cons_zero, Act.put, List.setIfInBounds_toArray, List.set_cons_zero, List.set_cons_succ]
          refine tk (i := 3) (v := ?_) rfl ?_ hHeld ?_
          rotate_left
          · intro W hSw; (try dsimp only at hSw); (try go_split_ands); go_simp; (try with_reducible rfl)
          simp only [List.getElem_toArray, List.getElem_cons_succ, List.getElem_cons_zero, Act.put, List.setIfInBounds_toArray, List.set_cons_zero, List.set_cons_succ]
          refine tk (i := 4) (v := ?_) rfl ?_ hHeld ?_
          rotate_left
          · intro W hSw; (try dsimp only at hSw); (try go_split_ands); go_simp; (try with_reducible rfl)
          simp only [List.getElem_toArray, List.getElem_cons_succ, List.getElem_cons_zero, Act.put, List.setIfInBounds_toArray, List.set_cons_zero, List.set_cons_succ]
          refine tk (i := 5) (v := ?_) rfl ?_ hHeld ?_
          rotate_left
          · intro W hSw; (try dsimp only at hSw); (try go_split_ands); go_simp; (try with_reducible rfl)
          simp only [List.getElem_toArray, List.getElem_cons_succ, List.getElem_cons_zero, Act.put, List.setIfInBounds_toArray, List.set_cons_zero, List.set_cons_succ]
          refine tk (i := 6) (v := ?_) rfl ?_ hHeld ?_
          rotate_left
          · intro W hSw; (try dsimp only at hSw); (try go_split_ands); go_simp; (try with_reducible rfl)
          simp only [List.getElem_toArray, List.getElem_cons_succ, List.getElem_cons_zero, Act.put, List.setIfInBounds_toArray, List.set_cons_zero, List.set_cons_succ]
          refine tk (i := 7) (v := ?_) rfl ?_ hHeld ?_
          rotate_left
          · intro W hSw; (try dsimp only at hSw); (try go_split_ands); go_simp; (try with_reducible rfl)
          simp only [List.getElem_toArray, List.getElem_cons_succ, List.getElem_cons_zero, Act.put, List.setIfInBounds_toArray, List.set_cons_zero, List.set_cons_succ]
          refine tk (i := 8) (v := ?_) rfl ?_ hHeld ?_
          rotate_left
          · intro W hSw; (try dsimp only at hSw); (try go_split_ands); go_simp; (try with_reducible rfl)
          simp only [List.getElem_toArray, List.getElem_cons_succ, List.getElem_cons_zero, Act.put, List.setIfInBounds_toArray, List.set_cons_zero, List.set_cons_succ]
          refine tk (i := 9) (v := ?_) rfl ?_ hHeld ?_
          rotate_left
          · intro W hSw; (try dsimp only at hSw); (try go_split_ands); go_simp; (try with_reducible rfl)
          simp only [List.getElem_toArray, List.getElem_cons_succ, List.getElem_cons_zero, Act.put, List.setIfInBounds_toArray, List.set_cons_zero, List.set_cons_succ]
          refine wpAnyH_ready (rs := [10, 14]) (by kernel_rfl) (by simp) ?_
          refine AllReadyH.cons rfl (fun K hK => ?_) (AllReadyH.cons rfl (fun K hK => ?_) AllReadyH.nil)
          · go_simp
            refine (dreadR (HT.out.2.2.2.1.keep ((Upd.refl (fun _ => False) w6).drew) (fun _ _ h => h)) (HT.out.2.2.2.2.1) (base + an) (by omega)).mono ?_
            rintro e w7 ⟨z2, cd2, rfl, hz2, hcd2, hz2l, hd7, hu7⟩
            have HZ2 := Lib.hid (And.intro hz2 hcd2)
            clear hz2 hcd2
            refine hK.out _ _ (⟨hu7.cellv hHeld.1 HT.out.2.2.1, hu7.cellv hHeld.2 HT.out.2.2.1⟩) (fun hHeld2 => ?_)
            clear hK K
            refine tk (i := 11) (v := ?_) rfl ?_ hHeld2 ?_
            rotate_left
            · intro W hSw; (try dsimp only at hSw); (try go_split_ands); go_simp; (try with_reducible rfl)
            simp only [List.getElem_toArray, List.getElem_cons_succ, List.getElem_cons_zero, Act.put, List.setIfInBounds_toArray, List.set_cons_zero, List.set_cons_succ]
            refine tk (i := 12) (v := ?_) rfl ?_ hHeld2 ?_
            rotate_left
            · intro W hSw; (try dsimp only at hSw); (try go_split_ands); go_simp; (try with_reducible rfl)
            simp only [List.getElem_toArray, List.getElem_cons_succ, List.getElem_cons_zero, Act.put, List.setIfInBounds_toArray, List.set_cons_zero, List.set_cons_succ]
            refine tk (i := 13) (v := ?_) rfl ?_ hHeld2 ?_
            rotate_left
            · intro W hSw; (try dsimp only at hSw); (try go_split_ands); go_simp; (try with_reducible rfl)
            simp only [List.getElem_toArray, List.getElem_cons_succ, List.getElem_cons_zero, Act.put, List.setIfInBounds_toArray, List.set_cons_zero, List.set_cons_succ]
            refine wpAnyH_ready (rs := [14]) (by kernel_rfl) (by simp) ?_
            refine AllReadyH.cons rfl (fun K hK => ?_) AllReadyH.nil
            go_simp
            show K _ (w7.alloc (.cells (bkC zB).toArray 23))
            have hg8 := heap_alloc_last w7 (.cells (bkC zB).toArray 23) rfl
            have hu8 : Upd (fun _ => False) w7 (w7.alloc (.cells (bkC zB).toArray 23)) := (Upd.refl _ _).alloc _
            have hw67 : w6.heap.size ≤ w7.heap.size := hu7.size
            have hd8 := (hd7.but (Nat.le_refl _)).keep hu8 (fun _ _ h => h)
            have hU8 : Upd T w6 (w7.alloc (.cells (bkC zB).toArray 23)) := ((Upd.refl _ w6).drew.trans hu7).trans (hu8.mono (fun _ _ h => h.elim))
            refine hK.out _ _ (⟨hu8.cellv hHeld2.1 (fun h => h), hu8.cellv hHeld2.2 (fun h => h)⟩) (fun hHeld3 => ?_)
            clear hK K
            generalize w7.heap.size = q at *
            generalize w7.alloc (.cells (bkC zB).toArray 23) = w8 at *
            refine wpAnyH_ready (rs := [15]) (by kernel_rfl) (by simp) ?_
            refine AllReadyH.cons rfl (fun K hK => ?_) AllReadyH.nil
            rw [if_pos (by rfl)]
            refine wp_store_mid _ _ _ rfl _ _ (List.toArray _) rfl rfl (by rw [bkC_size _ hz2l]; exact there_of_block hg8 (by rw [bkC_size _ zB_len]; exact Nat.le_refl _)) (by rw [bkC_size _ hz2l]; exact sizeBk') (all_oneCell_toArray (bkC_one _)) ?_
            simp only [Act.put, List.setIfInBounds_toArray]
            refine hK.out _ _ (⟨cell_keep_setCells hHeld3.1 (by omega), cell_keep_setCells hHeld3.2 (by omega)⟩) (fun hHeld4 => ?_)
            clear hK K
            refine wpAnyH_ready (rs := [16]) (by kernel_rfl) (by simp) ?_
            refine AllReadyH.cons rfl (fun K hK => ?_) AllReadyH.nil
            go_simp
            refine hK.out _ _ (hHeld4) (fun _ => ?_)
            clear hK K
            refine wpAnyH_done (by kernel_rfl) ?_ _
            clear hHeld4 e1
            go_wp2_with fail
            go_meet
            case rel => exact ⟨q, z2, cd2, rfl, rfl, block_setCells hg8 zB_len hz2l, hw67, HZ2.out.1, HZ2.out.2, hz2l, hd8.keep (upd_row w8 q 0 (bkC z2)) (fun j h e => h.2 e), hU8.trans ((upd_row w8 q 0 (bkC z2)).mono (fun j _ e => e ▸ HT.out.2.2.2.2.1 _ hw67))⟩
          · go_simp
            show K _ (w6.drew.alloc (.cells (bkC zB).toArray 23))
            have hg7 : (w6.drew.alloc (.cells (bkC zB).toArray 23)).heap[w6.heap.size]? = some (.cells (bkC zB).toArray 23) := heap_alloc_last w6.drew _ rfl
            have hu7a : Upd (fun _ => False) w6 (w6.drew.alloc (.cells (bkC zB).toArray 23)) := ((Upd.refl _ w6).drew).alloc _
            have hd7a : Dv (fun j => T j ∧ j ≠ w6.heap.size) (w6.drew.alloc (.cells (bkC zB).toArray 23)) b F O P := (HT.out.2.2.2.1.but (Nat.le_refl _)).keep hu7a (fun _ _ h => h)
            have hs7a : (w6.drew.alloc (.cells (bkC zB).toArray 23)).heap.size = w6.heap.size + 1 := by simp
            refine hK.out _ _ (⟨hu7a.cellv c0 (fun h => h), hu7a.cellv c1 (fun h => h)⟩) (fun hHeld2 => ?_)
            clear hK K
            generalize w6.drew.alloc (.cells (bkC zB).toArray 23) = w7a at *
            refine wpAnyH_ready (rs := [10]) (by kernel_rfl) (by simp) ?_
            refine AllReadyH.cons rfl (fun K hK => ?_) AllReadyH.nil
            go_simp
            refine (dreadR (hd7a) (fun j hj => ⟨HT.out.2.2.2.2.1 j (by omega), by omega⟩) (base + an) (by omega)).mono ?_
            rintro e w7 ⟨z2, cd2, rfl, hz2, hcd2, hz2l, hd7, hu7⟩
            have HZ2 := Lib.hid (And.intro hz2 hcd2)
            clear hz2 hcd2
            have hg8 := (hu7.block w6.heap.size (lt_of_block hg7) (fun h => h.2 rfl)).trans hg7
            refine hK.out _ _ (⟨hu7.cellv hHeld2.1 (fun h => HT.out.2.2.1 h.1), hu7.cellv hHeld2.2 (fun h => HT.out.2.2.1 h.1)⟩) (fun hHeld3 => ?_)
            clear hK K
            refine tk (i := 11) (v := ?_) rfl ?_ hHeld3 ?_
            rotate_left
            · intro W hSw; (try dsimp only at hSw); (try go_split_ands); go_simp; (try with_reducible rfl)
            simp only [List.getElem_toArray, List.getElem_cons_succ, List.getElem_cons_zero, Act.put, List.setIfInBounds_toArray, List.set_cons_zero, List.set_cons_succ]
            refine tk (i := 12) (v := ?_) rfl ?_ hHeld3 ?_
            rotate_left
            · intro W hSw; (try dsimp only at hSw); (try go_split_ands); go_simp; (try with_reducible rfl)
            simp only [List.getElem_toArray, List.getElem_cons_succ, List.getElem_cons_zero, Act.put, List.setIfInBounds_toArray, List.set_cons_zero, List.set_cons_succ]
            refine tk (i := 13) (v := ?_) rfl ?_ hHeld3 ?_
            rotate_left
            · intro W hSw; (try dsimp only at hSw); (try go_split_ands); go_simp; (try with_reducible rfl)
            simp only [List.getElem_toArray, List.getElem_cons_succ, List.getElem_cons_zero, Act.put, List.setIfInBounds_toArray, List.set_cons_zero, List.set_cons_succ]
            refine wpAnyH_ready (rs := [15]) (by kernel_rfl) (by simp) ?_
            refine AllReadyH.cons rfl (fun K hK => ?_) AllReadyH.nil
            rw [if_pos (by rfl)]
            refine wp_store_mid _ _ _ rfl _ _ (List.toArray _) rfl rfl (by rw [bkC_size _ hz2l]; exact there_of_block hg8 (by rw [bkC_size _ zB_len]; exact Nat.le_refl _)) (by rw [bkC_size _ hz2l]; exact sizeBk') (all_oneCell_toArray (bkC_one _)) ?_
            simp only [Act.put, List.setIfInBounds_toArray]
            refine hK.out _ _ (⟨cell_keep_setCells hHeld3.1 (by omega), cell_keep_setCells hHeld3.2 (by omega)⟩) (fun hHeld4 => ?_)
            clear hK K
            refine wpAnyH_ready (rs := [16]) (by kernel_rfl) (by simp) ?_
            refine AllReadyH.cons rfl (fun K hK => ?_) AllReadyH.nil
            go_simp
            refine hK.out _ _ (hHeld4) (fun _ => ?_)
            clear hK K
            refine wpAnyH_done (by kernel_rfl) ?_ _
            clear hHeld4 e1
            go_wp2_with fail
            go_meet
            case rel => exact ⟨w6.heap.size, z2, cd2, rfl, rfl, block_setCells hg8 zB_len hz2l, Nat.le_refl _, HZ2.out.1, HZ2.out.2, hz2l, hd7.keep (upd_row w7 w6.heap.size 0 (bkC z2)) (fun j h e => h.2 e), ((hu7a.mono (fun _ _ h => h.elim)).trans (hu7.mono (fun j _ h => h.1))).trans ((upd_row w7 w6.heap.size 0 (bkC z2)).mono (fun j _ e => e ▸ HT.out.2.2.2.2.1 _ (Nat.le_refl _)))⟩
        case rest =>
          obtain ⟨q, z2, cd2, rfl, rfl, hgq, hq, hz2, hcd2, hz2l, hdx, hux⟩ := hcut
          have d0 := hux.cellv c0 HT.out.2.2.1
          have d1 := hux.cellv c1 HT.out.2.2.1
          have hgp := (hux.block p hp6 HT.out.2.1).trans HT.out.2.2.2.2.2.2.1
          have rq := range_of_block hgq
          have rp := range_of_block hgp
          have hql := lt_of_block hgq
          have hnx : ∀ j, wc.heap.size ≤ j → T j ∧ j ≠ q := fun j hj => ⟨HT.out.2.2.2.2.1 j (by have := hux.size; omega), by omega⟩
          have hpq : ¬ p = q := by omega
          have HQ := Lib.hid (And.intro hdx (And.intro hux (And.intro hnx (And.intro hz2 (And.intro hcd2 hz2l)))))
          have hTlq : ¬ (T l ∧ l ≠ q) := fun h => HT.out.2.2.1 h.1
          have hTpq : ¬ (T p ∧ p ≠ q) := fun h => HT.out.2.1 h.1
          have HTQ := Lib.hid (And.intro hTlq hTpq)
          clear hgq hdx hux hnx hz2 hcd2 hz2l c0 c1 c2 hgp hTlq hTpq c3 hr1
          by_cases hf : fate P = 1
          · have e19 : cd2 = 19 := by rw [HQ.out.2.2.2.2.1, if_pos hf]
            subst e19
            have HP : Hid (putR F O P (base + an) z = ⟨F, O, P.tail, 19⟩) := if_pos hf
            have HD : Hid (Dv (fun j => T j ∧ j ≠ q) wc b F O P.tail ∧ Upd (fun j => T j ∧ j ≠ q) wc wc) := ⟨HQ.out.1, Upd.refl _ _⟩
            clear hf
            go_wp2
            go_ret
            exact (by rw [hres.out, HP.out]; exact ⟨rfl, HD.out.1.wide (fun j h => HT.out.1 j h.1), ((HT.out.2.2.2.2.2.1.mono (fun _ _ h => h.elim)).trans (HQ.out.2.1.mono (fun j _ h => HT.out.1 j h))).trans (HD.out.2.mono (fun j _ h => HT.out.1 j h.1))⟩)
          · have e0 : cd2 = 0 := by rw [HQ.out.2.2.2.2.1, if_neg hf]
            have ez : z2 = curB F O (base + an) := by rw [HQ.out.2.2.2.1, if_neg hf]
            subst e0
            have EZ := Lib.hid ez
            have HF := Lib.hid hf
            clear hf ez
            have hqe := eqIn_bk z2 z HQ.out.2.2.2.2.2 HT.out.2.2.2.2.2.2.2.2.1
            by_cases hzz : z2 = z
            · have hb : (z2 == z) = true := by simpa using hzz
              have HP : Hid (putR F O P (base + an) z = flushR F O P.tail) := by show _ = _; rw [putR, if_neg HF.out, if_pos (by rw [← EZ.out]; exact hzz)]
              clear hzz
              go_wp2_with (first
                | (refine wpList_load_mid rfl _ _ rfl _ _ rfl _ _ rq Tryz.underlying23 rfl (sizeBk _ HQ.out.2.2.2.2.2) ?_)
                | (refine wpList_load_mid rfl _ _ rfl _ _ rfl _ _ rp Tryz.underlying23 rfl (sizeBk _ HT.out.2.2.2.2.2.2.2.2.1) ?_)
                | fail)
              refine (dflushR HQ.out.1 HQ.out.2.2.1).mono ?_
              rintro e w9 ⟨rfl, hd9, hu9⟩
              have HD := Lib.hid (And.intro hd9 hu9)
              clear hd9 hu9
              go_wp2
              go_ret
              exact (by rw [hres.out, HP.out]; exact ⟨rfl, HD.out.1.wide (fun j h => HT.out.1 j h.1), ((HT.out.2.2.2.2.2.1.mono (fun _ _ h => h.elim)).trans (HQ.out.2.1.mono (fun j _ h => HT.out.1 j h))).trans (HD.out.2.mono (fun j _ h => HT.out.1 j h.1))⟩)
            · have hb : (z2 == z) = false := by simpa using hzz
              have HZZ := Lib.hid hzz
              clear hzz
              have hq0 : ∀ W, (Op.equalIn 10000 23 (.agg (bkC z2).toArray) (.agg #[.int .u8 0, .int .u8 0, .int .u8 0, .int .u8 0, .int .u8 0, .int .u8 0, .int .u8 0, .int .u8 0, .int .u8 0, .int .u8 0, .int .u8 0, .int .u8 0, .int .u8 0, .int .u8 0, .int .u8 0, .int .u8 0, .int .u8 0, .int .u8 0, .int .u8 0, .int .u8 0, .int .u8 0, .int .u8 0, .int .u8 0, .int .u8 0, .int .u8 0, .int .u8 0, .int .u8 0, .int .u8 0, .int .u8 0, .int .u8 0, .int .u8 0, .int .u8 0, .int .u8 0, .int .u8 0, .int .u8 0, .int .u8 0, .int .u8 0, .int .u8 0, .int .u8 0, .int .u8 0, .int .u8 0, .int .u8 0, .int .u8 0, .int .u8 0, .int .u8 0, .int .u8 0, .int .u8 0, .int .u8 0, .int .u8 0, .int .u8 0, .int .u8 0, .int .u8 0, .int .u8 0, .int .u8 0, .int .u8 0, .int .u8 0, .int .u8 0, .int .u8 0, .int .u8 0, .int .u8 0, .int .u8 0, .int .u8 0, .int .u8 0, .int .u8 0])).run Tryz.prog W = .ok (z2 == zB) W := eqIn_bk z2 zB HQ.out.2.2.2.2.2 zB_len
              by_cases h0 : z2 = zB
              · have hb0 : (z2 == zB) = true := by simpa using h0
                have hbn : (!(z2 == zB)) = false := by rw [hb0]; rfl
                have HP : Hid (putR F O P (base + an) z = if (writeR F O P.tail (base + an) z).cd ≠ 0 then writeR F O P.tail (base + an) z else flushR (writeR F O P.tail (base + an) z).F (writeR F O P.tail (base + an) z).O (writeR F O P.tail (base + an) z).P) := by
                  show _ = _
                  rw [putR, if_neg HF.out, if_neg (by rw [← EZ.out]; exact HZZ.out), if_neg (by rw [← EZ.out]; simpa using h0)]
                clear h0
                go_wp2_with (first
                  | (refine wpList_load_mid rfl _ _ rfl _ _ rfl _ _ rq Tryz.underlying23 rfl (sizeBk _ HQ.out.2.2.2.2.2) ?_)
                  | (refine wpList_load_mid rfl _ _ rfl _ _ rfl _ _ rp Tryz.underlying23 rfl (sizeBk _ HT.out.2.2.2.2.2.2.2.2.1) ?_)
                  | fail)
                have e1 : IntKind.i64.wrap ((base : Int) + (an : Int)) = ((base + an : Nat) : Int) := IntWalk.i64_in _ (by omega)
                clear hqe hq0
                refine wp_region_held_drew (S := fun W => (W.cell? ⟨l, 0, none⟩ = some (.pointer (some ⟨b, 0, none⟩)) ∧ W.cell? ⟨l, 1, none⟩ = some (.int .i64 (base : Int))) ∧ W.rangeAt p 0 (bkC z)) (by kernel_rfl) (⟨⟨by rw [World.cell?_drew]; exact d0, by rw [World.cell?_drew]; exact d1⟩, by rw [World.rangeAt_drew]; exact rp⟩) (fun hHeld => ?_)
                refine tk (i := 0) (v := ?_) rfl ?_ hHeld ?_
                rotate_left
                · intro W hSw; (try dsimp only at hSw); (try go_split_ands); go_simp; (try with_reducible rfl)
                simp only [List.getElem_toArray, List.getElem_cons_zero, Act.put, List.setIfInBounds_toArray, List.set_cons_zero, List.set_cons_succ]
                refine tk (i := 1) (v := ?_) rfl ?_ hHeld ?_
                rotate_left
                · intro W hSw; (try dsimp only at hSw); (try go_split_ands); go_simp; (try with_reducible rfl)
                simp only [List.getElem_toArray, List.getElem_cons_succ, List.getElem_cons_zero, Act.put, List.setIfInBounds_toArray, List.set_cons_zero, List.set_cons_succ]
                refine tk (i := 2) (v := ?_) rfl ?_ hHeld ?_
                rotate_left
                · intro W hSw; (try dsimp only at hSw); (try go_split_ands); go_simp; (try with_reducible rfl)
                simp only [List.getElem_toArray, List.getElem_cons_succ, List.getElem_cons_zero, Act.put, List.setIfInBounds_toArray, List.set_cons_zero, List.set_cons_succ]
                refine tk (i := 3) (v := ?_) rfl ?_ hHeld ?_
                rotate_left
                · intro W hSw; (try dsimp only at hSw); (try go_split_ands); go_simp; (try with_reducible rfl)
                simp only [List.getElem_toArray, List.getElem_cons_succ, List.getElem_cons_zero, Act.put, List.setIfInBounds_toArray, List.set_cons_zero, List.set_cons_succ]
                refine tk (i := 4) (v := ?_) rfl ?_ hHeld ?_
                rotate_left
                · intro W hSw; (try dsimp only at hSw); (try go_split_ands); go_simp; (try with_reducible rfl)
                simp only [List.getElem_toArray, List.getElem_cons_succ, List.getElem_cons_zero, Act.put, List.setIfInBounds_toArray, List.set_cons_zero, List.set_cons_succ]
                refine tk (i := 5) (v := ?_) rfl ?_ hHeld ?_
                rotate_left
                · intro W hSw; (try dsimp only at hSw); (try go_split_ands); go_simp; (try with_reducible rfl)
                simp only [List.getElem_toArray, List.getElem_cons_succ, List.getElem_cons_zero, Act.put, List.setIfInBounds_toArray, List.set_cons_zero, List.set_cons_succ]
                refine tk (i := 6) (v := ?_) rfl ?_ hHeld ?_
                rotate_left
                · intro W hSw; (try dsimp only at hSw); (try go_split_ands); go_simp; (try with_reducible rfl)
                simp only [List.getElem_toArray, List.getElem_cons_succ, List.getElem_cons_zero, Act.put, List.setIfInBounds_toArray, List.set_cons_zero, List.set_cons_succ]
                refine tk (i := 7) (v := ?_) rfl ?_ hHeld ?_
                rotate_left
                · intro W hSw; (try dsimp only at hSw); (try go_split_ands); go_simp; (try with_reducible rfl)
                simp only [List.getElem_toArray, List.getElem_cons_succ, List.getElem_cons_zero, Act.put, List.setIfInBounds_toArray, List.set_cons_zero, List.set_cons_succ]
                refine tk (i := 8) (v := ?_) rfl ?_ hHeld ?_
                rotate_left
                · intro W hSw; (try dsimp only at hSw); (try go_split_ands); go_simp; (try with_reducible rfl)
                simp only [List.getElem_toArray, List.getElem_cons_succ, List.getElem_cons_zero, Act.put, List.setIfInBounds_toArray, List.set_cons_zero, List.set_cons_succ]
                refine tk (i := 9) (v := ?_) rfl ?_ hHeld ?_
                rotate_left
                · intro W hSw; (try dsimp only at hSw); (try go_split_ands); go_simp; (try with_reducible rfl)
                simp only [List.getElem_toArray, List.getElem_cons_succ, List.getElem_cons_zero, Act.put, List.setIfInBounds_toArray, List.set_cons_zero, List.set_cons_succ]
                refine' wpAnyH_take (i := 10) rfl (by kernel_rfl) (by kernel_rfl) (by kernel_rfl) (fun _ _ _ h => h) (yieldsIf_load_mid (by rfl) _ _ rfl _ _ rfl _ _ (fun w h => h.2) Tryz.underlying23 rfl (sizeBk _ HT.out.2.2.2.2.2.2.2.2.1)) hHeld _
                simp only [List.getElem_toArray, List.getElem_cons_succ, List.getElem_cons_zero, Act.put, List.setIfInBounds_toArray, List.set_cons_zero, List.set_cons_succ]
                refine wpAnyH_ready (rs := [11]) (by kernel_rfl) (by simp) ?_
                refine AllReadyH.cons rfl (fun K hK => ?_) AllReadyH.nil
                go_simp
                refine (dwriteR (HQ.out.1.keep ((Upd.refl (fun _ => False) wc).drew) (fun _ _ h => h)) HQ.out.2.2.1 (base + an) (by omega) z HT.out.2.2.2.2.2.2.2.2.1 (by omega)).mono ?_
                rintro e w8 ⟨rfl, hd8, hu8⟩
                have hu8' : Upd (fun j => T j ∧ j ≠ q) wc w8 := (Upd.refl _ wc).drew.trans hu8
                refine hK.out _ _ (⟨⟨hu8.cellv hHeld.1.1 HTQ.out.1, hu8.cellv hHeld.1.2 HTQ.out.1⟩, hu8.range hHeld.2 HTQ.out.2⟩) (fun hHeld2 => ?_)
                clear hK K
                refine wpAnyH_ready (rs := [12]) (by kernel_rfl) (by simp) ?_
                refine AllReadyH.cons rfl (fun K hK => ?_) AllReadyH.nil
                go_simp
                refine hK.out _ _ (hHeld2) (fun _ => ?_)
                clear hK K
                refine wpAnyH_done (by kernel_rfl) ?_ _
                have d0' := hHeld2.1.1
                have H8 := Lib.hid (And.intro hd8 (And.intro hu8' (fun j (hj : w8.heap.size ≤ j) => HQ.out.2.2.1 j (Nat.le_trans hu8'.size hj))))
                clear hHeld hHeld2 hd8 hu8 hu8' d0 d1 rq rp e1
                by_cases hc : (writeR F O P.tail (base + an) z).cd = 0
                · rw [hc]
                  have HC2 := Lib.hid hc
                  clear hc
                  go_wp2_with fail
                  refine (dflushR H8.out.1 H8.out.2.2).mono ?_
                  rintro e w9 ⟨rfl, hd9, hu9⟩
                  have HD : Hid (_ ∧ Upd (fun j => T j ∧ j ≠ q) wc w9) := ⟨hd9, H8.out.2.1.trans hu9⟩
                  clear hd9 hu9
                  go_wp2
                  go_ret
                  rw [if_neg (by rw [HC2.out]; simp)] at HP
                  exact (by rw [hres.out, HP.out]; exact ⟨rfl, HD.out.1.wide (fun j h => HT.out.1 j h.1), ((HT.out.2.2.2.2.2.1.mono (fun _ _ h => h.elim)).trans (HQ.out.2.1.mono (fun j _ h => HT.out.1 j h))).trans (HD.out.2.mono (fun j _ h => HT.out.1 j h.1))⟩)
                · have hcb : ((writeR F O P.tail (base + an) z).cd == 0) = false := by simpa using hc
                  have HD : Hid (Dv (fun j => T j ∧ j ≠ q) w8 b (writeR F O P.tail (base + an) z).F (writeR F O P.tail (base + an) z).O (writeR F O P.tail (base + an) z).P ∧ Upd (fun j => T j ∧ j ≠ q) wc w8) := ⟨H8.out.1, H8.out.2.1⟩
                  rw [if_pos hc] at HP
                  clear hc
                  go_wp2
                  go_ret
                  exact (by rw [hres.out, HP.out]; exact ⟨rfl, HD.out.1.wide (fun j h => HT.out.1 j h.1), ((HT.out.2.2.2.2.2.1.mono (fun _ _ h => h.elim)).trans (HQ.out.2.1.mono (fun j _ h => HT.out.1 j h))).trans (HD.out.2.mono (fun j _ h => HT.out.1 j h.1))⟩)
              · have hb0 : (z2 == zB) = false := by simpa using h0
                have hbn : (!(z2 == zB)) = true := by rw [hb0]; rfl
                have HP : Hid (putR F O P (base + an) z = ⟨F, O, P.tail, 15⟩) := by
                  show _ = _
                  rw [putR, if_neg HF.out, if_neg (by rw [← EZ.out]; exact HZZ.out), if_pos (by rw [← EZ.out]; exact h0)]
                have HD : Hid (Dv (fun j => T j ∧ j ≠ q) wc b F O P.tail ∧ Upd (fun j => T j ∧ j ≠ q) wc wc) := ⟨HQ.out.1, Upd.refl _ _⟩
                clear h0
                go_wp2_with (first
                  | (refine wpList_load_mid rfl _ _ rfl _ _ rfl _ _ rq Tryz.underlying23 rfl (sizeBk _ HQ.out.2.2.2.2.2) ?_)
                  | (refine wpList_load_mid rfl _ _ rfl _ _ rfl _ _ rp Tryz.underlying23 rfl (sizeBk _ HT.out.2.2.2.2.2.2.2.2.1) ?_)
                  | fail)
                go_ret
                exact (by rw [hres.out, HP.out]; exact ⟨rfl, HD.out.1.wide (fun j h => HT.out.1 j h.1), ((HT.out.2.2.2.2.2.1.mono (fun _ _ h => h.elim)).trans (HQ.out.2.1.mono (fun j _ h => HT.out.1 j h))).trans (HD.out.2.mono (fun j _ h => HT.out.1 j h.1))⟩)
    · have hres : Hid (logPutR mb base n a y F O P = ⟨F, O, P, 10⟩) := if_pos hmb
      have hfin : Hid (Dv S wc b F O P ∧ Upd S w wc) := ⟨H.out.1.keep huc (fun _ _ h => h), huc.mono (fun _ _ h => h.elim)⟩
      clear hmb hz hgp hBx hlc hNc huc hp hpc hl1 hN1 hu1 hr1' hs1 hcc hrc
      go_wp2
      go_ret
      rw [hres.out]
      exact ⟨rfl, hfin.out.1, hfin.out.2⟩
end Go.Proofs.YtnadilfobmgebaaGreatDoor
