/- A cache behind writes: its numbers are bounded; index, slots and clock go together. The chapter's example of layer 14. Where each part of a cache's device begins, or that a superblock may not be: the walk. An array of integers as an argument of a card: its cells. The two tables that the logs' laws read, as they are laid. -/
import Derived.Test.YtnadilfobmgebaaGreatDoorG44
import Derived.Test.YtnadilfobmgebaaGreatDoorG36
import Derived.Test.YtnadilfobmgebaaGreatDoorG06
import Derived.Test.YtnadilfobmgebaaGreatDoorCards
import Derived.Test.YtnadilfobmgebaaGreatDoorTie
import Derived.ProofKit
import Derived.OpenShut
import Derived.Deep.DeepHandedRow
import Derived.Test.YtnadilfobmgebaaGreatDoorG09
import Derived.Test.YtnadilfobmgebaaGreatDoorG08
import Derived.Lib.LaidTab
namespace Go.Proofs.YtnadilfobmgebaaGreatDoor
open Go Go.RowKit
section
variable {n : CaN} {a : CaS} {N : Nat}
theorem CaS.takeR_next (n : CaN) (a : CaS) (s : Int) : a.next ≤ (a.takeR n s).1.next := by
  have h := (a.roomed_next n).1
  unfold CaS.takeR
  split
  · show a.next ≤ (a.roomed n).1.next; omega
  · show a.next ≤ (a.roomed n).1.next; omega
theorem CaS.take2_next (n : CaN) (a : CaS) : a.next ≤ (a.take2 n).1.next := by
  have h := (a.committed_next n).1
  unfold CaS.take2
  split
  · exact Nat.le_refl _
  · unfold CaS.take3
    split
    · show a.next ≤ (a.committed n).1.next; omega
    split
    · show a.next ≤ (a.committed n).1.next; omega
    · exact Nat.le_trans (by show a.next ≤ (a.committed n).1.next; omega) ((a.committed n).1.al.takeR_next n _)
theorem CaS.takes_next (n : CaN) (a : CaS) : a.next ≤ (a.takes n).1.next := by
  have h := CaS.evicts_next n 1 0 a.al
  unfold CaS.takes
  split
  · exact a.al.takeR_next n _
  · unfold CaS.take1
    split
    · split
      · exact h
      · exact Nat.le_trans h ((CaS.evicts n 1 0 a.al).1.take2_next n)
    · exact a.al.take2_next n
theorem CaS.Fit.backed (h : a.Fit N) (hg : a.Jg n) (h1 : 1 ≤ a.next) (hj : 4 ≤ n.jo) (k : Nat) (x : Bk) : (a.backed n k x).1.Fit (N + 3 * n.pa + n.jo + 6) := by
  have ht := h.takes' hg h1 hj
  have hn := a.takes_next n
  unfold CaS.backed
  split
  · exact ht.mono (by omega)
  split
  · exact (ht.bypassed (by omega) k x).mono (by omega)
  · have hf := ht.filled (n := n) (a.takes n).2.1.toNat (k : Int) x
    have hfn := (filled_next n (a.takes n).1 (a.takes n).2.1.toNat (k : Int) x).1
    unfold CaS.backS
    split
    · exact hf.mono (by omega)
    · exact (hf.putted (by omega) (k : Int) _ (crcC x) true (by have := crcC_lt x; omega)).mono (by omega)
theorem CaS.Fit.thru (h : a.Fit N) (hg : a.Jg n) (h1 : 1 ≤ a.next) (hj : 4 ≤ n.jo) (k : Nat) (x : Bk) : (a.thru n k x).1.Fit (N + 3 * n.pa + n.jo + 6) := by
  have ht := h.takes' hg h1 hj
  have hn := a.takes_next n
  unfold CaS.thru
  split
  · exact ht.mono (by omega)
  split
  · exact (ht.bypassed (by omega) k x).mono (by omega)
  · have hb := ht.bw k x
    unfold CaS.thruS
    split
    · exact (hb.turned _).mono (by omega)
    · have hf := hb.filled (n := n) (a.takes n).2.1.toNat (k : Int) x
      have hfn := (filled_next n ((a.takes n).1.bdev (writeR (a.takes n).1.bF (a.takes n).1.bO (a.takes n).1.bP k x)) (a.takes n).2.1.toNat (k : Int) x).1
      replace hfn : _ = (a.takes n).1.next := hfn
      unfold CaS.thruF
      split
      · exact (hf.byp (by rw [hfn]; omega) k).mono (by omega)
      · exact (hf.putted (by rw [hfn]; omega) (k : Int) _ (crcC x) false (by have := crcC_lt x; omega)).mono (by omega)
theorem CaS.Fit.wrote (h : a.Fit N) (hg : a.Jg n) (h1 : 1 ≤ a.next) (hj : 4 ≤ n.jo) (k : Int) (x : Bk) (md : Int) : (a.wrote n k x md).1.Fit (N + 3 * n.pa + n.jo + 6) := by
  unfold CaS.wrote
  split
  · exact h.mono (by omega)
  split
  · exact h.mono (by omega)
  split
  · exact h.backed hg h1 hj _ x
  split
  · exact h.thru hg h1 hj _ x
  · exact (h.bypassed h1 _ x).mono (by omega)
theorem CaS.Tie.backS {s k : Nat} (h : a.Tie n (some s)) (hk : k < n.bl) (x : Bk) : (a.backS n k s x).1.Tie n none := by
  unfold CaS.backS
  rcases CaS.Tie.filled h (k : Int) x with ⟨hc, ht⟩ | ⟨hc, ht⟩
  · rw [if_neg (by omega)]
    exact (CaS.Tie.put ht hk (crcC x) true).2.2
  · rw [if_pos hc]
    exact ht
theorem CaS.Tie.thruS {s k : Nat} (h : a.Tie n (some s)) (hk : k < n.bl) (x : Bk) : (a.thruS n k s x).1.Tie n none := by
  unfold CaS.thruS
  split
  · exact (TieL.shut h (.inl rfl)).2
  · unfold CaS.thruF
    have h' : (a.bdev (writeR a.bF a.bO a.bP k x)).Tie n (some s) := h
    rcases CaS.Tie.filled h' (k : Int) x with ⟨hc, ht⟩ | ⟨hc, ht⟩
    · rw [if_neg (by omega)]
      exact (CaS.Tie.put ht hk (crcC x) false).2.2
    · rw [if_pos hc]
      exact CaS.Tie.byp ht k
theorem CaS.Tie.backed (h : a.Tie n none) (h1 : 1 ≤ a.next) (hj : 4 ≤ n.jo) {k : Nat} (hk : k < n.bl) (x : Bk) : (a.backed n k x).1.Tie n none := by
  have ht := CaS.Tie.takes h h1 hj
  unfold CaS.backed
  rcases ht with ⟨h2, h3, -, s, h4, h5⟩ | ⟨h2, h5⟩
  · rw [if_neg (by omega), if_neg (by rw [h2]; decide), h4, Int.toNat_natCast]
    exact CaS.Tie.backS h5 hk x
  · split
    · exact h5
    · exact CaS.Tie.bypassed h5 k x
theorem CaS.Tie.thru (h : a.Tie n none) (h1 : 1 ≤ a.next) (hj : 4 ≤ n.jo) {k : Nat} (hk : k < n.bl) (x : Bk) : (a.thru n k x).1.Tie n none := by
  have ht := CaS.Tie.takes h h1 hj
  unfold CaS.thru
  rcases ht with ⟨h2, h3, -, s, h4, h5⟩ | ⟨h2, h5⟩
  · rw [if_neg (by omega), if_neg (by rw [h2]; decide), h4, Int.toNat_natCast]
    exact CaS.Tie.thruS h5 hk x
  · split
    · exact h5
    · exact CaS.Tie.bypassed h5 k x
theorem CaS.Tie.wrote (h : a.Tie n none) (h1 : 1 ≤ a.next) (hj : 4 ≤ n.jo) (k : Int) (x : Bk) (md : Int) : (a.wrote n k x md).1.Tie n none := by
  unfold CaS.wrote
  split
  · exact h
  next hk =>
  split
  · exact h
  split
  · exact CaS.Tie.backed h h1 hj (by omega) x
  split
  · exact CaS.Tie.thru h h1 hj (by omega) x
  · exact CaS.Tie.bypassed h _ x
end
theorem made_tie (n : CaN) : (madeS n).Tie n none := by
  have e : (madeS n).st = freeTo (List.replicate n.sl 0) (pos (List.replicate n.sl 0) 3) := rfl
  have h0 : ∀ k, plc (List.replicate n.bl (-1, false)) k = (-1, false) := fun k => by
    rw [plc, List.getD_eq_getElem?_getD, List.getElem?_replicate]
    split <;> rfl
  have hs : ∀ s, (List.replicate n.sl (0 : Int)).getD s 0 = 0 := fun s => by
    rw [List.getD_eq_getElem?_getD, List.getElem?_replicate]
    split <;> rfl
  have : TieL n.bl n.sl (List.replicate n.bl (-1, false)) (List.replicate n.sl 0) [] none := {
    hpl := List.length_replicate
    hsl := List.length_replicate
    good := Good.start _ _
    live := fun k _ hn => absurd (h0 k) hn
    used := fun s _ h2 => by rw [hs] at h2; cases h2
    opn := fun s _ => by rw [hs]; simp
    rng := fun s _ => by rw [hs]; decide
    olt := fun s h => by cases h
    kk := fun k => by
      rw [getC_iff]
      constructor
      · intro h; cases h
      · rintro ⟨m, -, -, hn⟩; exact absurd (h0 m) hn
    kd := List.nodup_nil }
  exact this.freed
theorem made_fit (n : CaN) : (madeS n).Fit 3 where
  sm := fun k v h => by cases h
  w1 := fun q h => by cases h
  nx := by show (1 : Nat) ≤ 3; decide
  iN := by show (0 : Nat) ≤ 3; decide
  kN := by show (0 : Nat) ≤ 3; decide
  mN := by show (0 : Nat) ≤ 3; decide
  dO := by show (0 : Nat) ≤ 3; decide
  bO := by show (0 : Nat) ≤ 3; decide
theorem sizeU8 (w : World) : (sizeOf 5).run Tryz.prog w = .ok 1 w := by
  obtain ⟨i, hi, hs⟩ := Option.map_eq_some_iff.1 (show (Tryz.prog.info? 5).map (·.size) = some 1 by kernel_rfl)
  simp [sizeOf, typeInfo, hi, hs]
theorem run_eql_bk (x y : Bk) (hx : x.length = 64) (hy : y.length = 64) (w : World) : (binOp .eql 23 (.agg (bkC x).toArray) (.agg (bkC y).toArray)).run Tryz.prog w = .ok (.bool (x == y)) w :=
  run_eql_bytes w 23 5 64 Tryz.underlying23 Tryz.underlying5 sizeU8 x y hx hy
def awS : Nat → CaS
  | 0 => madeS (smN 9 2 8)
  | k + 1 => ((awS k).wrote (smN 9 2 8) (k : Int) (fillB (k + 1)) 0).1
theorem awS_c (k : Nat) (h : k < 3) : ((awS k).wrote (smN 9 2 8) (k : Int) (fillB (k + 1)) 0).2 = 0 := by
  rcases (show k = 0 ∨ k = 1 ∨ k = 2 by omega) with rfl | rfl | rfl
  · kernel_rfl
  · kernel_rfl
  · kernel_rfl
theorem awS_p : getC (awS 3).ps 2 = 14 := by kernel_rfl
theorem awS_v : getV (awS 3).ps 2 = (0, false) := by kernel_rfl
theorem awS_st : (pos ((awS 3).readB (smN 9 2 8) 2).1.st 2).length = 2 := by kernel_rfl
theorem awS_r : ((awS 3).readB (smN 9 2 8) 2).2 = (fillB 3, 0) := by kernel_rfl
theorem smN_ok (bl sl jo : Nat) (h1 : 1 ≤ bl) (h2 : bl ≤ 12) (h3 : 1 ≤ sl) (h4 : sl ≤ 8) (h5 : 4 ≤ jo) (h6 : jo ≤ 12) : (smN bl sl jo).Ok := by
  have hp : (sl - 1) / 4 ≤ 1 := by omega
  constructor <;> simp only [smN, CaN.size] <;> omega
theorem Did.below {own own' : Nat → Nat} {w0 w w' : World} (h : Did own own' w w') (hb : Below w0.heap.size w0 w) (ho : ∀ j, j < w0.heap.size → own j = 0) : Below w0.heap.size w0 w' :=
  below_upd hb h.upd (Nat.le_refl _) (fun k hk => Nat.le_of_not_lt fun hlt => hk.1 (ho k hlt))
set_option maxRecDepth 100000 in
set_option maxHeartbeats 1000000 in
theorem awake14 (w : World) (nib : Nib w) (tur : Tur w) : Calls Tryz.prog 36 #[] w fun e w' => e = .returned (.bool true) ∧ Below w.heap.size w w' := by
  have HS := Lib.hid (small_any 9 2 8 (by omega) (by omega) w)
  have HN := Lib.hid (And.intro nib tur)
  clear nib tur
  go_enter Tryz.func36, Tryz.ntmps36
  go_wp2_with fail
  refine HS.out.mono ?_
  rintro e w1 ⟨rfl, hb1⟩
  have HM := Lib.hid (made_ok (smN 9 2 8) (smN_ok 9 2 8 (by omega) (by omega) (by omega) (by omega) (by omega) (by omega)) w1 (HN.out.1.below hb1) (HN.out.2.keep (Upd.of_below (S := fun _ => False) hb1) (fun h => h)))
  have HB1 := Lib.hid hb1
  clear hb1 HS
  generalize (smN 9 2 8).C.toArray = SC at *
  go_wp2_with fail
  refine HM.out.mono ?_
  rintro e w2 ⟨c, p, own, rfl, h2, hb2, ho⟩
  have H2 := Lib.hid (And.intro h2 (And.intro (HB1.out.trans (hb2.mono HB1.out.size)) (fun j (hj : j < w.heap.size) => ho j (Nat.lt_of_lt_of_le hj HB1.out.size))))
  clear h2 hb2 ho HM
  go_wp2_with fail
  go_loopg [4] 3 (fun g i wr => ∃ k : Nat, k + g = 3 ∧ i = .int .i64 (k : Int) ∧ ∃ own', CaAt own' wr c (smN 9 2 8) p (awS k) ∧ Did own own' w2 wr ∧ (awS k).Tie (smN 9 2 8) none ∧ (awS k).Fit (3 + k * 30))
  case atStart => exact ⟨0, by omega, rfl, own, H2.out.1, Did.refl H2.out.1.far, made_tie _, made_fit _⟩
  case round =>
    obtain ⟨k, hk, rfl, own1, h1, d1, t1, f1⟩ := hrel
    by_cases hlt : k < 3
    · have hF := Lib.hid (fill_any (k + 1) (by omega) wr)
      have H1 := Lib.hid (And.intro h1 (And.intro d1 (And.intro t1 f1)))
      have e1 : ((k + 1 : Nat) : Int) = (k : Int) + 1 := by simp
      rw [e1] at hF
      clear h1 d1 t1 f1 e1
      have k1 : (k : Int) < 3 := by omega
      go_wp2_with fail
      refine hF.out.mono ?_
      rintro e w3 ⟨rfl, hb3⟩
      obtain ⟨h1, d1, t1, f1⟩ := H1.out
      have hu3 : Upd (fun _ => False) wr w3 := Upd.of_below hb3
      have h3 := h1.new hu3
      have HW := Lib.hid (CaOut.from (d1.trans (h1.didNew hu3)) (ca_write h3 f1 (by simp only [smN]; omega) t1 (k : Int) (fillB (k + 1)) (fillB_len _) 0))
      have ht := t1.wrote h3.nx1 (by decide) (k : Int) (fillB (k + 1)) 0
      have hf := f1.wrote h3.jg h3.nx1 (by decide) (k : Int) (fillB (k + 1)) 0
      rw [awS_c k hlt] at HW
      have HX := Lib.hid (And.intro ht hf)
      clear h1 d1 t1 f1 hu3 hb3 h3 ht hf hF
      go_wp2_with fail
      refine HW.out.mono ?_
      rintro e w4 ⟨rfl, own4, h4, d4⟩
      have H4 := Lib.hid (And.intro h4 d4)
      clear h4 d4 HW
      go_wp2
      go_roundg (gk - 1)
      case measure => omega
      case rel =>
        refine ⟨k + 1, by omega, by go_num, own4, H4.out.1, H4.out.2, HX.out.1, HX.out.2.mono ?_⟩
        simp only [smN]; omega
    · obtain rfl : k = 3 := by omega
      have HP := Lib.hid (CaOut.from d1 (ca_place h1 2))
      rw [awS_v, awS_p] at HP
      have k1 : ¬ (((3 : Nat) : Int) < 3) := by decide
      clear h1 d1 t1 f1
      go_wp2_with fail
      refine HP.out.mono ?_
      rintro e w3 ⟨rfl, own3, h3, d3⟩
      have hu3 : Upd (fun _ => False) w3 (w3.alloc (.cells #[.int .i64 0, .bool false] 108)) := (Upd.refl _ _).alloc _
      obtain ⟨w4, hw4⟩ : ∃ w4, w4 = w3.alloc (.cells #[.int .i64 0, .bool false] 108) := ⟨_, rfl⟩
      rw [← hw4] at hu3
      have HR := Lib.hid (And.intro (ca_read (h3.new hu3) 2) (d3.trans (h3.didNew hu3)))
      have HW := Lib.hid hw4
      clear h3 d3 hu3 hw4 HP
      go_wp2_with fail
      rw [← HW.out]
      refine HR.out.1.mono ?_
      rintro e w5 ⟨y, cd, hy, hcd, hyl, rfl, own5, h5, d5⟩
      have hr := awS_r
      have hy3 : y = fillB 3 := hy.trans (congrArg Prod.fst hr)
      have hc0 : cd = 0 := hcd.trans (congrArg Prod.snd hr)
      subst hc0
      obtain ⟨w6, hw6⟩ : ∃ w6, w6 = w5.alloc (.cells (bkC y).toArray 23) := ⟨_, rfl⟩
      have hu6 : Upd (fun _ => False) w5 w6 := by rw [hw6]; exact (Upd.refl _ w5).alloc _
      have g6 : w6.heap[w5.heap.size]? = some (.cells (bkC y).toArray 23 (0, 0)) := by rw [hw6]; exact heap_alloc_last w5 _ rfl
      obtain ⟨gb, hgb⟩ : ∃ gb, gb = w5.heap.size := ⟨_, rfl⟩
      rw [← hgb] at g6
      have r6 := range_of_block g6
      have hud := (Upd.refl (fun _ => False) w6).drew
      have H6 := Lib.hid (And.intro (h5.new (hu6.trans hud)) (((HR.out.2).trans d5).trans (h5.didNew (hu6.trans hud))))
      have HW6 := Lib.hid (And.intro hw6 hgb)
      have hgo : own5 gb = 0 := h5.far _ (by omega)
      have HG := Lib.hid hgo
      have heq : ∀ W : World, (binOp .eql 23 (.agg (bkC y).toArray) (.agg (bkC (fillB 3)).toArray)).run Tryz.prog W = .ok (.bool true) W := by
        intro W; rw [run_eql_bk _ _ hyl (fillB_len 3), hy3]; simp
      have hsi := sizeBk y hyl
      have hut := Tryz.underlying23
      clear h5 d5 hu6 g6 hud hw6 hgb hy hcd hr hy3 HR hgo
      generalize hF3 : fillB 3 = F3 at *
      replace hF3 := Lib.hid hF3
      go_upto_region 11 with (first
        | (refine wpList_store_new rfl _ _ _ rfl _ _ (bkC y) rfl rfl (by rw [bkC_len, hyl]; rfl) hsi (bkC_one y) ?_)
        | fail)
      rw [← HW6.out.1, ← HW6.out.2]
      refine wp_region_held_drew (S := fun W => W.rangeAt gb 0 (bkC y)) (by kernel_rfl) (by rw [World.rangeAt_drew]; exact r6) (fun hHeld => ?_)
      refine tk (i := 0) (v := ?_) rfl ?_ hHeld ?_
      rotate_left
      · intro W hSw; (try dsimp only at hSw); (try go_split_ands); go_simp; (try with_reducible rfl)
      simp only [List.getElem_toArray, List.getElem_cons_zero, Act.put, List.setIfInBounds_toArray, List.set_cons_zero, List.set_cons_succ]
      refine tk (i := 1) (v := ?_) rfl ?_ hHeld ?_
      rotate_left
      · intro W hSw; (try dsimp only at hSw); (try go_split_ands); go_simp; (try with_reducible rfl)
      simp only [List.getElem_toArray, List.getElem_cons_succ, List.getElem_cons_zero, Act.put, List.setIfInBounds_toArray, List.set_cons_zero, List.set_cons_succ]
      refine tk (i := 2) (v := ?_) rfl ?_ hHeld ?_
      rotate_left
      · intro W hSw; (try dsimp only at hSw); (try go_split_ands); go_simp; (try with_reducible rfl)
      simp only [List.getElem_toArray, List.getElem_cons_succ, List.getElem_cons_zero, Act.put, List.setIfInBounds_toArray, List.set_cons_zero, List.set_cons_succ]
      refine tk (i := 3) (v := ?_) rfl ?_ hHeld ?_
      rotate_left
      · intro W hSw; (try dsimp only at hSw); (try go_split_ands); go_simp; (try with_reducible rfl)
      simp only [List.getElem_toArray, List.getElem_cons_succ, List.getElem_cons_zero, Act.put, List.setIfInBounds_toArray, List.set_cons_zero, List.set_cons_succ]
      refine tk (i := 4) (v := ?_) rfl ?_ hHeld ?_
      rotate_left
      · intro W hSw; (try dsimp only at hSw); (try go_split_ands); go_simp; (try with_reducible rfl)
      simp only [List.getElem_toArray, List.getElem_cons_succ, List.getElem_cons_zero, Act.put, List.setIfInBounds_toArray, List.set_cons_zero, List.set_cons_succ]
      refine tk (i := 5) (v := ?_) rfl ?_ hHeld ?_
      rotate_left
      · intro W hSw; (try dsimp only at hSw); (try go_split_ands); go_simp; (try with_reducible rfl)
      simp only [List.getElem_toArray, List.getElem_cons_succ, List.getElem_cons_zero, Act.put, List.setIfInBounds_toArray, List.set_cons_zero, List.set_cons_succ]
      refine tk (i := 6) (v := ?_) rfl ?_ hHeld ?_
      rotate_left
      · intro W hSw; (try dsimp only at hSw); (try go_split_ands); go_simp; (try with_reducible rfl)
      simp only [List.getElem_toArray, List.getElem_cons_succ, List.getElem_cons_zero, Act.put, List.setIfInBounds_toArray, List.set_cons_zero, List.set_cons_succ]
      refine' wpAnyH_take (i := 7) rfl (by kernel_rfl) (by kernel_rfl) (by kernel_rfl) (fun _ _ _ h => h) (yieldsIf_load_mid (by rfl) _ _ rfl _ _ rfl _ _ (fun w h => h) hut rfl hsi) hHeld _
      simp only [List.getElem_toArray, List.getElem_cons_succ, List.getElem_cons_zero, Act.put, List.setIfInBounds_toArray, List.set_cons_zero, List.set_cons_succ]
      refine wpAnyH_ready (rs := [8]) (by kernel_rfl) (by simp) ?_
      refine AllReadyH.cons rfl (fun K hK => ?_) AllReadyH.nil
      go_simp
      refine (fill_any 3 (by omega) _).mono ?_
      rintro e w7 ⟨rfl, hb7⟩
      rw [hF3.out]
      have hu7 : Upd (fun _ => False) w6.drew w7 := Upd.of_below hb7
      have r7 := hu7.range (show w6.drew.rangeAt gb 0 (bkC y) from by rw [World.rangeAt_drew]; exact r6) (fun h => h)
      have HC := Lib.hid (ca_ccount (H6.out.1.new hu7) 2)
      rw [awS_st] at HC
      have hlo : gb < w7.heap.size := World.block_lt_of_cell? w7 _ (r7 0 _ (by rw [List.getElem?_eq_getElem (by rw [bkC_len]; omega)]))
      have HU7 := Lib.hid hu7
      clear hb7 hu7
      refine hK.out _ _ (r7) (fun hH1 => ?_)
      clear hK K
      refine tk (i := 9) (v := ?_) rfl ?_ hH1 ?_
      rotate_left
      · intro W hSw; (try dsimp only at hSw); (try go_split_ands); go_simp; (try with_reducible rfl)
      simp only [List.getElem_toArray, List.getElem_cons_succ, List.getElem_cons_zero, Act.put, List.setIfInBounds_toArray, List.set_cons_zero, List.set_cons_succ]
      refine tk (i := 10) (v := ?_) rfl ?_ hH1 ?_
      rotate_left
      · intro W hSw; (try dsimp only at hSw); (try go_split_ands); go_simp; (try with_reducible rfl)
      simp only [List.getElem_toArray, List.getElem_cons_succ, List.getElem_cons_zero, Act.put, List.setIfInBounds_toArray, List.set_cons_zero, List.set_cons_succ]
      refine tk (i := 11) (v := ?_) rfl ?_ hH1 ?_
      rotate_left
      · intro W hSw; (try dsimp only at hSw); (try go_split_ands); go_simp; (try with_reducible rfl)
      simp only [List.getElem_toArray, List.getElem_cons_succ, List.getElem_cons_zero, Act.put, List.setIfInBounds_toArray, List.set_cons_zero, List.set_cons_succ]
      refine tk (i := 12) (v := ?_) rfl ?_ hH1 ?_
      rotate_left
      · intro W hSw; (try dsimp only at hSw); (try go_split_ands); go_simp; (try with_reducible rfl)
      simp only [List.getElem_toArray, List.getElem_cons_succ, List.getElem_cons_zero, Act.put, List.setIfInBounds_toArray, List.set_cons_zero, List.set_cons_succ]
      refine wpAnyH_ready (rs := [13]) (by kernel_rfl) (by simp) ?_
      refine AllReadyH.cons rfl (fun K hK => ?_) AllReadyH.nil
      go_simp
      refine HC.out.mono ?_
      rintro e w8 ⟨rfl, own8, h8, d8⟩
      have r8 := d8.upd.range r7 (fun h => h.1 HG.out)
      have H8 := Lib.hid (And.intro h8 ((H6.out.2.trans (H6.out.1.didNew HU7.out)).trans d8))
      clear h8 d8
      refine hK.out _ _ (r8) (fun hH2 => ?_)
      clear hK K
      refine tk (i := 14) (v := ?_) rfl ?_ hH2 ?_
      rotate_left
      · intro W hSw; (try dsimp only at hSw); (try go_split_ands); go_simp; (try with_reducible rfl)
      simp only [List.getElem_toArray, List.getElem_cons_succ, List.getElem_cons_zero, Act.put, List.setIfInBounds_toArray, List.set_cons_zero, List.set_cons_succ]
      refine tk (i := 15) (v := ?_) rfl ?_ hH2 ?_
      rotate_left
      · intro W hSw; (try dsimp only at hSw); (try go_split_ands); go_simp; (try with_reducible rfl)
      simp only [List.getElem_toArray, List.getElem_cons_succ, List.getElem_cons_zero, Act.put, List.setIfInBounds_toArray, List.set_cons_zero, List.set_cons_succ]
      refine wpAnyH_ready (rs := [16]) (by kernel_rfl) (by simp) ?_
      refine AllReadyH.cons rfl (fun K hK => ?_) AllReadyH.nil
      go_simp
      refine hK.out _ _ (r8) (fun _ => ?_)
      clear hK K
      refine wpAnyH_done (by kernel_rfl) ?_ _
      go_wp2
      go_ret
      exact ⟨rfl, H8.out.2.below H2.out.2.1 H2.out.2.2⟩
end Go.Proofs.YtnadilfobmgebaaGreatDoor
namespace Go.Proofs.YtnadilfobmgebaaGreatDoor.cachePlans
open Go Go.RowKit Go.Proofs.YtnadilfobmgebaaGreatDoor
theorem list7 : ∀ L : List Int, L.length = 7 → ∃ a b c d e f g, L = [a, b, c, d, e, f, g]
  | [a, b, c, d, e, f, g], _ => ⟨a, b, c, d, e, f, g, rfl⟩
set_option maxRecDepth 100000 in
set_option maxHeartbeats 400000 in
theorem walk (id bl sl jo pa lo ba : Int) (w : World) (nib : Nib w) (tur : Tur w) :
    Calls Tryz.prog 7 #[.agg (superC id bl sl jo pa lo ba).toArray] w fun e w' => e = .returned (.bool true) ∧ Below w.heap.size w w' := by
  obtain ⟨w1, hw1⟩ : ∃ w1, w1 = w.alloc (.cells (superC id bl sl jo pa lo ba).toArray 34) := ⟨_, rfl⟩
  have g1 : w1.heap[w.heap.size]? = some (.cells (superC id bl sl jo pa lo ba).toArray 34 (0, 0)) := by rw [hw1]; exact heap_alloc_last w _ rfl
  have hb1 : Below w.heap.size w w1 := by rw [hw1]; exact (Below.refl _ w).alloc (Nat.le_refl _) _
  have HQ := Lib.hid fun (W : World) (a b c d e f g : Int) => run_eql_lay W a b c d e f g
  by_cases hA : AdmP bl sl jo pa lo ba
  · have HP := Lib.hid (plan_good hA id w1)
    have HH := Lib.hid (And.intro nib (And.intro tur (And.intro g1 (And.intro hb1 hA))))
    have HW := Lib.hid hw1
    clear nib tur g1 hb1 hA hw1
    go_enter Tryz.func7, Tryz.ntmps7
    go_wp2_with fail
    rw [← HW.out]
    refine HP.out.mono ?_
    rintro e w2 ⟨rfl, hb2⟩
    obtain ⟨w3, hw3⟩ : ∃ w3, w3 = w2.alloc (.cells #[.int .i64 1, .int .i64 (1 + 2 * pa), .int .i64 (1 + 2 * pa + jo), .int .i64 (1 + 2 * pa + jo + lo), .int .i64 (1 + 2 * pa + jo + lo + lo), .int .i64 (1 + 2 * pa + jo + lo + lo + lo), .int .i64 (1 + 2 * pa + jo + lo + lo + lo + sl)] 82) := ⟨_, rfl⟩
    have g2 := (hb2.block _ (lt_of_block HH.out.2.2.1)).trans HH.out.2.2.1
    have hu3 : Upd (fun _ => False) w2 w3 := by rw [hw3]; exact (Upd.refl _ w2).alloc _
    have g3 := hu3.blockv g2
    have k1 := cell_of_block g3 1
    have k2 := cell_of_block g3 2
    have k3 := cell_of_block g3 3
    have k4 := cell_of_block g3 4
    have k5 := cell_of_block g3 5
    have k6 := cell_of_block g3 6
    simp at k1 k2 k3 k4 k5 k6
    go_upto_region 2 with fail
    simp only [layI, List.map_cons, List.map_nil] at *
    rw [← hw3]
    have HW3 := Lib.hid hw3
    clear hw3
    go_wp2_with fail
    refine (rplan bl sl jo pa lo ba w3).mono ?_
    rintro e w4 ⟨L, ok, rfl, hL7, hR, hb4⟩
    obtain ⟨rfl, -, rfl⟩ | ⟨-, hn⟩ := hR.cases
    rotate_left
    · exact absurd HH.out.2.2.2.2 hn
    obtain ⟨w5, hw5⟩ : ∃ w5, w5 = w4.alloc (.cells #[.int .i64 1, .int .i64 (1 + 2 * pa), .int .i64 (1 + 2 * pa + jo), .int .i64 (1 + 2 * pa + jo + lo), .int .i64 (1 + 2 * pa + jo + lo + lo), .int .i64 (1 + 2 * pa + jo + lo + lo + lo), .int .i64 (1 + 2 * pa + jo + lo + lo + lo + sl)] 85) := ⟨_, rfl⟩
    have l3 : w3.heap[w2.heap.size]? = some (.cells #[.int .i64 1, .int .i64 (1 + 2 * pa), .int .i64 (1 + 2 * pa + jo), .int .i64 (1 + 2 * pa + jo + lo), .int .i64 (1 + 2 * pa + jo + lo + lo), .int .i64 (1 + 2 * pa + jo + lo + lo + lo), .int .i64 (1 + 2 * pa + jo + lo + lo + lo + sl)] 82 (0, 0)) := by rw [HW3.out]; exact heap_alloc_last w2 _ rfl
    have l4 := (hb4.block _ (lt_of_block l3)).trans l3
    have hu5 : Upd (fun _ => False) w4 w5 := by rw [hw5]; exact (Upd.refl _ w4).alloc _
    have l5 := hu5.blockv l4
    have x5 : w5.heap[w4.heap.size]? = some (.cells #[.int .i64 1, .int .i64 (1 + 2 * pa), .int .i64 (1 + 2 * pa + jo), .int .i64 (1 + 2 * pa + jo + lo), .int .i64 (1 + 2 * pa + jo + lo + lo), .int .i64 (1 + 2 * pa + jo + lo + lo + lo), .int .i64 (1 + 2 * pa + jo + lo + lo + lo + sl)] 85 (0, 0)) := by rw [hw5]; exact heap_alloc_last w4 _ rfl
    obtain ⟨nib, tur, -, hb1, -⟩ := HH.out
    have hb12 : Below w.heap.size w w2 := hb1.trans (hb2.mono hb1.size)
    have hb13 : Below w.heap.size w w3 := below_upd hb12 hu3 (Nat.le_refl _) (fun k h => h.elim)
    have hb14 : Below w.heap.size w w4 := hb13.trans (hb4.mono hb13.size)
    have hb15 : Below w.heap.size w w5 := below_upd hb14 hu5 (Nat.le_refl _) (fun k h => h.elim)
    have HAw := Lib.hid (And.intro (awake14 w5 (nib.below hb15) (tur.keep (Upd.of_below (S := fun _ => False) hb15) (fun h => h))) hb15)
    obtain ⟨a, ha⟩ : ∃ a, a = w2.heap.size := ⟨_, rfl⟩
    obtain ⟨b, hb⟩ : ∃ b, b = w4.heap.size := ⟨_, rfl⟩
    rw [← ha] at l5 ⊢
    rw [← hb] at x5
    have q0 := cell_of_block l5 0
    have q1 := cell_of_block l5 1
    have q2 := cell_of_block l5 2
    have q3 := cell_of_block l5 3
    have q4 := cell_of_block l5 4
    have q5 := cell_of_block l5 5
    have q6 := cell_of_block l5 6
    have x0 := cell_of_block x5 0
    have x1 := cell_of_block x5 1
    have x2 := cell_of_block x5 2
    have x3 := cell_of_block x5 3
    have x4 := cell_of_block x5 4
    have x6 := cell_of_block x5 6
    have x55 := cell_of_block x5 5
    simp at q0 q1 q2 q3 q4 q5 q6 x0 x1 x2 x3 x4 x55 x6
    have HW5 := Lib.hid (And.intro hw5 hb)
    have hq := fun W => HQ.out W 1 (1 + 2 * pa) (1 + 2 * pa + jo) (1 + 2 * pa + jo + lo) (1 + 2 * pa + jo + lo + lo) (1 + 2 * pa + jo + lo + lo + lo) (1 + 2 * pa + jo + lo + lo + lo + sl)
    clear l3 l4 hu5 l5 x5 hb1 hb12 hb13 hb14 hb15 hw5 hb HW3 ha k1 k2 k3 k4 k5 k6 g2 g3 hu3 hb2 hb4 nib tur hR hL7
    go_upto_region 3 with fail
    try simp only [layI, List.map_cons, List.map_nil]
    rw [← HW5.out.2, ← HW5.out.1]
    go_wp2_with fail
    refine HAw.out.1.mono ?_
    rintro e w6 ⟨rfl, hb6⟩
    clear q0 q1 q2 q3 q4 q5 q6 x0 x1 x2 x3 x4 x55 x6 hq
    go_wp2
    go_ret
    exact ⟨rfl, HAw.out.2.trans (hb6.mono HAw.out.2.size)⟩
  · have HP := Lib.hid (plan_bad hA id w1)
    have HH := Lib.hid (And.intro nib (And.intro tur (And.intro g1 (And.intro hb1 hA))))
    have HW := Lib.hid hw1
    clear nib tur g1 hb1 hA hw1
    go_enter Tryz.func7, Tryz.ntmps7
    go_wp2_with fail
    rw [← HW.out]
    refine HP.out.mono ?_
    rintro e w2 ⟨rfl, hb2⟩
    obtain ⟨w3, hw3⟩ : ∃ w3, w3 = w2.alloc (.cells #[.int .i64 0, .int .i64 0, .int .i64 0, .int .i64 0, .int .i64 0, .int .i64 0, .int .i64 0] 82) := ⟨_, rfl⟩
    have g2 := (hb2.block _ (lt_of_block HH.out.2.2.1)).trans HH.out.2.2.1
    have hu3 : Upd (fun _ => False) w2 w3 := by rw [hw3]; exact (Upd.refl _ w2).alloc _
    have g3 := hu3.blockv g2
    have k1 := cell_of_block g3 1
    have k2 := cell_of_block g3 2
    have k3 := cell_of_block g3 3
    have k4 := cell_of_block g3 4
    have k5 := cell_of_block g3 5
    have k6 := cell_of_block g3 6
    simp at k1 k2 k3 k4 k5 k6
    go_upto_region 2 with fail
    rw [← hw3]
    have HW3 := Lib.hid hw3
    clear hw3
    go_wp2_with fail
    refine (rplan bl sl jo pa lo ba w3).mono ?_
    rintro e w4 ⟨L, ok, rfl, hL7, hR, hb4⟩
    obtain ⟨-, hn, -⟩ | ⟨rfl, -⟩ := hR.cases
    · exact absurd hn HH.out.2.2.2.2
    obtain ⟨y0, y1, y2, y3, y4, y5, y6, rfl⟩ := list7 L hL7
    obtain ⟨w5, hw5⟩ : ∃ w5, w5 = w4.alloc (.cells #[.int .i64 y0, .int .i64 y1, .int .i64 y2, .int .i64 y3, .int .i64 y4, .int .i64 y5, .int .i64 y6] 85) := ⟨_, rfl⟩
    have l3 : w3.heap[w2.heap.size]? = some (.cells #[.int .i64 0, .int .i64 0, .int .i64 0, .int .i64 0, .int .i64 0, .int .i64 0, .int .i64 0] 82 (0, 0)) := by rw [HW3.out]; exact heap_alloc_last w2 _ rfl
    have l4 := (hb4.block _ (lt_of_block l3)).trans l3
    have hu5 : Upd (fun _ => False) w4 w5 := by rw [hw5]; exact (Upd.refl _ w4).alloc _
    have l5 := hu5.blockv l4
    obtain ⟨nib, tur, -, hb1, -⟩ := HH.out
    have hb12 : Below w.heap.size w w2 := hb1.trans (hb2.mono hb1.size)
    have hb13 : Below w.heap.size w w3 := below_upd hb12 hu3 (Nat.le_refl _) (fun k h => h.elim)
    have hb14 : Below w.heap.size w w4 := hb13.trans (hb4.mono hb13.size)
    have hb15 : Below w.heap.size w w5 := below_upd hb14 hu5 (Nat.le_refl _) (fun k h => h.elim)
    have HAw := Lib.hid (And.intro (awake14 w5 (nib.below hb15) (tur.keep (Upd.of_below (S := fun _ => False) hb15) (fun h => h))) hb15)
    obtain ⟨a, ha⟩ : ∃ a, a = w2.heap.size := ⟨_, rfl⟩
    rw [← ha] at l5 ⊢
    have q0 := cell_of_block l5 0
    have q1 := cell_of_block l5 1
    have q2 := cell_of_block l5 2
    have q3 := cell_of_block l5 3
    have q4 := cell_of_block l5 4
    have q5 := cell_of_block l5 5
    have q6 := cell_of_block l5 6
    simp at q0 q1 q2 q3 q4 q5 q6
    have HW5 := Lib.hid hw5
    have hq := fun W => HQ.out W 0 0 0 0 0 0 0
    clear l3 l4 hu5 l5 hb1 hb12 hb13 hb14 hb15 hw5 HW3 ha k1 k2 k3 k4 k5 k6 g2 g3 hu3 hb2 hb4 nib tur hR hL7
    go_upto_region 3 with fail
    try simp only [List.map_cons, List.map_nil]
    rw [← HW5.out]
    go_wp2_with fail
    refine HAw.out.1.mono ?_
    rintro e w6 ⟨rfl, hb6⟩
    clear q0 q1 q2 q3 q4 q5 q6 hq
    go_wp2
    go_ret
    exact ⟨rfl, HAw.out.2.trans (hb6.mono HAw.out.2.size)⟩
end Go.Proofs.YtnadilfobmgebaaGreatDoor.cachePlans
namespace Go.Proofs.YtnadilfobmgebaaGreatDoor
open Go Go.RowKit
section
variable {H : Type} {enc : TypeId × Value → H} {P : Program} {W : World} {base : Nat} {sp : Nat → Bool} {held : Bool} {t e : TypeId} {n : Nat} {q : IntKind}
end
theorem tTab : Tryz.prog.globalNamed "lavabo/slots.turns" = some 1 := by kernel_rfl
theorem tTabType : (Tryz.prog.globals[1]?).map (·.type) = some 326 := by kernel_rfl
theorem tArr : Tryz.prog.underlying 326 = some (.array 5 3) := by kernel_rfl
theorem nTab : Tryz.prog.globalNamed "lavabo/crc.nibbles" = some 0 := by kernel_rfl
theorem nTabType : (Tryz.prog.globals[0]?).map (·.type) = some 304 := by kernel_rfl
theorem nArr : Tryz.prog.underlying 304 = some (.array 16 3) := by kernel_rfl
theorem laid_tail {P : Program} {W : World} {x : String × DataW Unit} {rest : List (String × DataW Unit)} (h : laidMet P (x :: rest) W) : laidMet P rest W := by
  obtain ⟨ps, ⟨g', t', cs, fuel, p, q, hg', ht', hvar, hd, hq, rfl⟩, hn, ha⟩ := h
  exact ⟨q, hq, (List.nodup_append.1 hn).2.1, fun b off hm => ha b off (List.mem_append_right _ hm)⟩
theorem tabs17 {W : World} (h : laidMetH Tryz.prog [("lavabo/crc.nibbles", Rows.laid_lavabo_crc_nibbles), ("lavabo/slots.turns", Rows.laid_lavabo_slots_turns)] W) : Nib W ∧ Tur W := by
  have h' : laidMet Tryz.prog [("lavabo/crc.nibbles", Rows.laid_lavabo_crc_nibbles), ("lavabo/slots.turns", Rows.laid_lavabo_slots_turns)] W := h
  have hn : Lib.TabIs Tryz.prog W "lavabo/crc.nibbles" .i64 (nibT.map Int.ofNat) := Lib.tabIs_of_head (rest := [("lavabo/slots.turns", Rows.laid_lavabo_slots_turns)]) nTab nTabType nArr Tryz.underlying3 (by kernel_rfl) (by kernel_rfl) h'
  have ht : Lib.TabIs Tryz.prog W "lavabo/slots.turns" .i64 [2, 28, 24, 17, 0] := Lib.tabIs_of_head (rest := []) tTab tTabType tArr Tryz.underlying3 (by kernel_rfl) (by kernel_rfl) (laid_tail h')
  refine ⟨⟨fun i hi => ?_⟩, ht.cell tTab 0 (by decide), ht.cell tTab 1 (by decide), ht.cell tTab 2 (by decide), ht.cell tTab 3 (by decide), ht.cell tTab 4 (by decide)⟩
  have hl : (nibT.map Int.ofNat).length = 16 := by decide
  have := hn.cell nTab i (by rw [hl]; exact hi)
  rw [this]
  have e : (nibT.map Int.ofNat).getD i 0 = (nibC i : Int) := by
    unfold nibC
    rw [List.getD_eq_getElem?_getD, List.getD_eq_getElem?_getD, List.getElem?_map]
    cases nibT[i]? <;> rfl
  rw [e]
def layT : Obj → Obj
  | .cells _ t frozen => .cells #[.int .i64 2, .int .i64 28, .int .i64 24, .int .i64 17, .int .i64 0] t frozen
  | o => o
def layN : Obj → Obj
  | .cells _ t frozen => .cells #[.int .i64 0, .int .i64 274646895, .int .i64 549293790, .int .i64 820201905, .int .i64 1098587580, .int .i64 1361435347, .int .i64 1640403810, .int .i64 1905808397, .int .i64 2197175160, .int .i64 2460548119, .int .i64 2722870694, .int .i64 2987750089, .int .i64 3280807620, .int .i64 3553878443, .int .i64 3811616794, .int .i64 4084100981] t frozen
  | o => o
noncomputable def laidWorld (os : Os) : World :=
  { World.holding Tryz.prog os ⟨#[], #[], []⟩ with heap := (((World.holding Tryz.prog os ⟨#[], #[], []⟩).heap.modify 1 layT).modify 0 layN) }
end Go.Proofs.YtnadilfobmgebaaGreatDoor
