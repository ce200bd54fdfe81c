/- Writeback: its numbers are bounded; index, slots and clock go together. Writeback, call by call: the plain law. The chapter's example of layer 15. Writeback's calls as they came; are they few? Writeback's calls, one behind the other: what they come to. The plain law. The document's answer of layer 15. Writeback's calls: what lies in memory between them. Writeback: each block reads as it was written. -/
import Derived.Test.YtnadilfobmgebaaGreatDoorH32
import Derived.Test.YtnadilfobmgebaaGreatDoorH28
import Derived.Test.YtnadilfobmgebaaGreatDoorH04
import Derived.Deep.LoopGhost
namespace Go.Proofs.YtnadilfobmgebaaGreatDoor
open Go Go.RowKit
section
variable {n : CaN} {a : CaS} {N : Nat}
structure CaS.Go (n : CaN) (a : CaS) (N : Nat) : Prop where
  fit : a.Fit N
  nx : 1 ≤ a.next
  tie : a.Tie n none
  pl : a.ps.length = n.bl
theorem CaS.Go.mono {M : Nat} (h : a.Go n N) (hM : N ≤ M) : a.Go n M := ⟨h.fit.mono hM, h.nx, h.tie, h.pl⟩
theorem CaS.stepL_go (h : a.Go n N) {L : List Nat} (hL : L.length ≤ n.bl) : (CaS.stepL n L a).1.Go n (N + n.bl * (n.pa + 2)) := by
  obtain ⟨f1, f2, f3, f4, f5⟩ := CaS.backs_fit (n := n) L h.fit
  have tB : (CaS.backs n L a).1.Tie n none := by
    show TieL n.bl n.sl (CaS.backs n L a).1.ps (CaS.backs n L a).1.st (CaS.backs n L a).1.K none
    rw [f2, f3, f4]
    exact h.tie
  have hx : 1 ≤ (CaS.backs n L a).1.next := by rw [f5]; exact h.nx
  have hmul : L.length * (n.pa + 1) + L.length ≤ n.bl * (n.pa + 2) := by
    have e1 : L.length * (n.pa + 1) + L.length = L.length * (n.pa + 2) := (Nat.mul_succ L.length (n.pa + 1)).symm
    have e2 : L.length * (n.pa + 2) ≤ n.bl * (n.pa + 2) := Nat.mul_le_mul_right _ hL
    omega
  unfold CaS.stepL
  generalize CaS.backs n L a = B at *
  split
  · exact ⟨f1.mono (by omega), hx, tB, tB.hpl⟩
  split
  · exact ⟨f1.mono (by omega), hx, tB, tB.hpl⟩
  split
  · exact ⟨f1.fb.mono (by omega), hx, tB, tB.hpl⟩
  · obtain ⟨g1, g2, g3⟩ := CaS.cleans_fit (n := n) L 0 (a := B.1.fb) f1.fb hx tB
    exact ⟨g1.mono (by omega), g2, g3, g3.hpl⟩
theorem CaS.wstep_go (h : a.Go n N) (m : Int) : (a.wstep n m).1.Go n (N + n.bl * (n.pa + 2)) := by
  unfold CaS.wstep
  split
  · exact h.mono (by omega)
  · refine CaS.stepL_go h ?_
    have h1 := dirtL_len a.ps
    rw [h.pl] at h1
    rw [List.length_take]
    omega
theorem CaS.tick_go (h : a.Go n N) (hi lo ba : Int) : (a.tick n hi lo ba).1.Go n (N + n.bl * (n.pa + 2)) := by
  unfold CaS.tick
  split
  · exact h.mono (by omega)
  split
  · exact h.mono (by omega)
  · exact CaS.wstep_go h _
end
structure Inv15 (n : CaN) (a : CaS) (v : Nat → Bk) (N : Nat) : Prop where
  fit : a.Fit N
  tie : a.Tie n none
  nop : a.NoP
  val : a.Val n v
section
variable {n : CaN} {a : CaS} {v : Nat → Bk} {N : Nat}
theorem Inv15.mono {M : Nat} (h : Inv15 n a v N) (hM : N ≤ M) : Inv15 n a v M := { h with fit := h.fit.mono hM }
theorem Inv15.wrote (h : Inv15 n a v N) (hg : a.Jg n) (h1 : 1 ≤ a.next) (hj : 4 ≤ n.jo) (k : Int) (x : Bk) (md : Int) :
    ((0 ≤ k ∧ k < (n.bl : Int)) ∧ (0 ≤ md ∧ md < 3) → (a.wrote n k x md).2 = 0 ∧ Inv15 n (a.wrote n k x md).1 (updV v k.toNat x) (N + 3 * n.pa + n.jo + 6)) ∧
      (¬ ((0 ≤ k ∧ k < (n.bl : Int)) ∧ (0 ≤ md ∧ md < 3)) → (a.wrote n k x md).2 ≠ 0 ∧ (a.wrote n k x md).1 = a) := by
  refine ⟨fun hk => ?_, fun hk => CaS.wrote_bad k x md (by omega)⟩
  obtain ⟨w1, w2, w3⟩ := h.val.wrote h.nop h.tie h1 hj k x md hk.1 hk.2
  exact ⟨w1, h.fit.wrote hg h1 hj k x md, h.tie.wrote h1 hj k x md, w2, w3⟩
theorem Inv15.gone (h : Inv15 n a v N) (h1 : 1 ≤ a.next) (k : Int) :
    (0 ≤ k ∧ k < (n.bl : Int) → (a.gone n k).2 = 0 ∧ Inv15 n (a.gone n k).1 (updV v k.toNat zB) (N + n.pa + 2)) ∧ (¬ (0 ≤ k ∧ k < (n.bl : Int)) → (a.gone n k).2 ≠ 0 ∧ (a.gone n k).1 = a) := by
  refine ⟨fun hk => ?_, fun hk => CaS.gone_bad k hk⟩
  obtain ⟨w1, w2, w3⟩ := h.val.gone h.nop k hk
  exact ⟨w1, h.fit.gone h1 k, h.tie.gone k, w2, w3⟩
theorem pl_nil {P : List Int} (h : P = []) : Pl P := by rw [h]; intro x hx; cases hx
theorem Inv15.step (h : Inv15 n a v N) (h1 : 1 ≤ a.next) (m : Int) :
    Inv15 n (a.wstep n m).1 v (N + n.bl * (n.pa + 2)) ∧ (m < 1 → a.wstep n m = (a, 0, 1)) ∧
      (1 ≤ m → (a.wstep n m).2.2 = 0 ∧ (a.wstep n m).2.1 = min m.toNat (dirtL a.ps).length ∧ dirtL (a.wstep n m).1.ps = (dirtL a.ps).drop (min m.toNat (dirtL a.ps).length)) := by
  have hgo : a.Go n N := ⟨h.fit, h1, h.tie, h.val.pl⟩
  by_cases hm : m < 1
  · have e : a.wstep n m = (a, 0, 1) := if_pos hm
    rw [e]
    exact ⟨h.mono (by omega), fun _ => rfl, fun hx => by omega⟩
  · have e : a.wstep n m = a.step n m.toNat := if_neg hm
    have hs := h.val.step h.tie h1 (pl_nil h.nop.1) (pl_nil h.nop.2) m.toNat (by omega)
    have hG := CaS.wstep_go hgo m
    rw [e] at hG ⊢
    have h0 := hs.no h.nop
    have h2 := hs.ok.1 h0
    refine ⟨⟨hG.fit, hs.st.tie, hs.st.no h.nop, hs.st.val⟩, fun hx => absurd hx hm, fun _ => ⟨h0, h2, ?_⟩⟩
    rw [hs.dirt, h2]
def tickN (hi lo ba : Int) (dirty : Nat) : Int := if (dirty : Int) ≤ hi then 0 else if (dirty : Int) - lo < ba then (dirty : Int) - lo else ba
theorem Inv15.tick (h : Inv15 n a v N) (h1 : 1 ≤ a.next) (hi lo ba : Int) :
    Inv15 n (a.tick n hi lo ba).1 v (N + n.bl * (n.pa + 2)) ∧ (¬ rightP hi lo ba n.sl → a.tick n hi lo ba = (a, 0, 1)) ∧
      (rightP hi lo ba n.sl → (a.tick n hi lo ba).2.2 = 0 ∧ ((a.tick n hi lo ba).2.1 : Int) = tickN hi lo ba (dirtL a.ps).length ∧ dirtL (a.tick n hi lo ba).1.ps = (dirtL a.ps).drop (a.tick n hi lo ba).2.1) := by
  unfold CaS.tick
  by_cases hr : rightP hi lo ba n.sl
  · have hc : chkP hi lo ba n.sl = 0 := if_pos hr
    rw [if_neg (fun e => e hc)]
    by_cases hle : ((dirtL a.ps).length : Int) ≤ hi
    · rw [if_pos hle]
      refine ⟨h.mono (by omega), fun e => absurd hr e, fun _ => ⟨rfl, ?_, rfl⟩⟩
      unfold tickN
      rw [if_pos hle]
      rfl
    · rw [if_neg hle]
      obtain ⟨r1, r2, r3, r4, r5⟩ := hr
      have hm : 1 ≤ min (((dirtL a.ps).length : Int) - lo) ba := by omega
      obtain ⟨s1, -, s3⟩ := h.step h1 (min (((dirtL a.ps).length : Int) - lo) ba)
      obtain ⟨s4, s5, s6⟩ := s3 hm
      refine ⟨s1, fun e => absurd ⟨r1, r2, r3, r4, r5⟩ e, fun _ => ⟨s4, ?_, by rw [s6, s5]⟩⟩
      rw [s5]
      unfold tickN
      rw [if_neg hle]
      split <;> omega
  · have hc : chkP hi lo ba n.sl = 1 := if_neg hr
    rw [if_pos (by rw [hc]; decide), hc]
    exact ⟨h.mono (by omega), fun _ => rfl, fun e => absurd e hr⟩
theorem Inv15.committed (h : Inv15 n a v N) (hg : a.Jg n) (hj : 4 ≤ n.jo) : (a.committed n).2 = 0 ∧ Inv15 n (a.committed n).1 v (N + n.jo) := by
  have hs := a.same_committed n (by omega)
  exact ⟨h.nop.committed.1, h.fit.committed hg.len, h.tie.committed, hs.noP h.nop, h.val.same hs⟩
end
def awT : Nat → CaS
  | 0 => madeS (smN 9 6 9)
  | k + 1 => ((awT k).wrote (smN 9 6 9) (k : Int) (fillB (k + 1)) 0).1
def awT1 : CaS := ((awT 5).tick (smN 9 6 9) 4 2 2).1
def awT2 : CaS := (awT1.tick (smN 9 6 9) 4 2 2).1
theorem awT_t : ((awT 5).tick (smN 9 6 9) 4 2 2).2 = (2, 0) := by kernel_rfl
theorem awT_u : (awT1.tick (smN 9 6 9) 4 2 2).2 = (0, 0) := by kernel_rfl
theorem awT_d : (dirtL awT2.ps).length = 3 := by kernel_rfl
set_option maxRecDepth 100000 in
set_option maxHeartbeats 1000000 in
theorem awake15 (w : World) (nib : Nib w) (tur : Tur w) : Calls Tryz.prog 38 #[] w fun e w' => e = .returned (.bool true) ∧ Below w.heap.size w w' := by
  have HS := Lib.hid (small_any 9 6 9 (by omega) (by omega) w)
  have HN := Lib.hid (And.intro nib tur)
  clear nib tur
  go_enter Tryz.func38, Tryz.ntmps38
  go_wp2_with fail
  refine HS.out.mono ?_
  rintro e w1 ⟨rfl, hb1⟩
  have HM := Lib.hid (made_ok (smN 9 6 9) (smN_ok 9 6 9 (by omega) (by omega) (by omega) (by omega) (by omega) (by omega)) w1 (HN.out.1.below hb1) (HN.out.2.keep (Upd.of_below (S := fun _ => False) hb1) (fun h => h)))
  have HB1 := Lib.hid hb1
  clear hb1 HS
  generalize (smN 9 6 9).C.toArray = SC at *
  go_wp2_with fail
  refine HM.out.mono ?_
  rintro e w2 ⟨c, p, own, rfl, h2, hb2, ho⟩
  have H2 := Lib.hid (And.intro h2 (And.intro (HB1.out.trans (hb2.mono HB1.out.size)) (fun j (hj : j < w.heap.size) => ho j (Nat.lt_of_lt_of_le hj HB1.out.size))))
  clear h2 hb2 ho HM
  go_wp2_with fail
  go_loopg [4] 5 (fun g i wr => ∃ k : Nat, k + g = 5 ∧ i = .int .i64 (k : Int) ∧ ∃ own', CaAt own' wr c (smN 9 6 9) p (awT k) ∧ Did own own' w2 wr ∧ (awT k).Tie (smN 9 6 9) none ∧ (awT k).Fit (3 + k * 40))
  case atStart => exact ⟨0, by omega, rfl, own, H2.out.1, Did.refl H2.out.1.far, made_tie _, made_fit _⟩
  case round =>
    obtain ⟨k, hk, rfl, own1, h1, d1, t1, f1⟩ := hrel
    by_cases hlt : k < 5
    · have hF := Lib.hid (fill_any (k + 1) (by omega) wr)
      have H1 := Lib.hid (And.intro h1 (And.intro d1 (And.intro t1 f1)))
      have e1 : ((k + 1 : Nat) : Int) = (k : Int) + 1 := by simp
      rw [e1] at hF
      clear h1 d1 t1 f1 e1
      have k1 : (k : Int) < 5 := by omega
      go_wp2_with fail
      refine hF.out.mono ?_
      rintro e w3 ⟨rfl, hb3⟩
      obtain ⟨h1, d1, t1, f1⟩ := H1.out
      have hu3 : Upd (fun _ => False) wr w3 := Upd.of_below hb3
      have h3 := h1.new hu3
      have HW := Lib.hid (CaOut.from (d1.trans (h1.didNew hu3)) (ca_write h3 f1 (by simp only [smN]; omega) t1 (k : Int) (fillB (k + 1)) (fillB_len _) 0))
      have ht := t1.wrote h3.nx1 (by decide) (k : Int) (fillB (k + 1)) 0
      have hf := f1.wrote h3.jg h3.nx1 (by decide) (k : Int) (fillB (k + 1)) 0
      have HX := Lib.hid (And.intro ht hf)
      clear h1 d1 t1 f1 hu3 hb3 h3 ht hf hF
      go_wp2_with fail
      refine HW.out.mono ?_
      rintro e w4 ⟨rfl, own4, h4, d4⟩
      have H4 := Lib.hid (And.intro h4 d4)
      clear h4 d4 HW
      go_wp2
      go_roundg (gk - 1)
      case measure => omega
      case rel =>
        refine ⟨k + 1, by omega, by go_num, own4, H4.out.1, H4.out.2, HX.out.1, HX.out.2.mono ?_⟩
        simp only [smN]; omega
    · obtain rfl : k = 5 := by omega
      have hg : (awT 5).Go (smN 9 6 9) 203 := ⟨f1, h1.nx1, t1, h1.pl⟩
      obtain ⟨wq, hwq⟩ : ∃ wq, wq = wr.alloc (.cells #[.int .i64 4, .int .i64 2, .int .i64 2] 94) := ⟨_, rfl⟩
      have huq : Upd (fun _ => False) wr wq := by rw [hwq]; exact (Upd.refl _ wr).alloc _
      obtain ⟨pb, hpb⟩ : ∃ pb, pb = wr.heap.size := ⟨_, rfl⟩
      have gq : wq.heap[pb]? = some (.cells #[.int .i64 4, .int .i64 2, .int .i64 2] 94 (0, 0)) := by rw [hwq, hpb]; exact heap_alloc_last wr _ rfl
      have oq : own1 pb = 0 := h1.far _ (by omega)
      have hq := h1.new huq
      have dq := d1.trans (h1.didNew huq)
      have HT := Lib.hid (wb_tick hq f1 (by simp only [smN]; omega) t1 4 2 2)
      rw [awT_t] at HT
      replace HT : Hid (Calls Tryz.prog 43 #[ptr c, polV 4 2 2] wq (CaOut own1 wq c (smN 9 6 9) p awT1 (.tuple #[.int .i64 2, .int .i64 0]))) := HT
      have hg1 : awT1.Go (smN 9 6 9) 303 := (CaS.tick_go hg 4 2 2).mono (by simp only [smN]; omega)
      have HG1 := Lib.hid (And.intro hg1 (And.intro gq (And.intro oq dq)))
      have HQ := Lib.hid (And.intro hwq hpb)
      have k1 : ¬ (((5 : Nat) : Int) < 5) := by decide
      have hut := Tryz.underlying94
      have hsi : (Tryz.prog.info? 94).map (·.size) = some 3 := by kernel_rfl
      clear h1 d1 t1 f1 hg hg1 hwq huq gq oq hq dq hpb
      go_wp2_with fail
      rw [← HQ.out.1, ← HQ.out.2]
      refine HT.out.mono ?_
      rintro e wa ⟨rfl, own2, ha, da⟩
      obtain ⟨ga, oa⟩ := da.still HG1.out.2.1 HG1.out.2.2.1
      have ra := range_of_block ga
      have HT2 := Lib.hid (wb_tick ha HG1.out.1.fit (by simp only [smN]; omega) HG1.out.1.tie 4 2 2)
      rw [awT_u] at HT2
      replace HT2 : Hid (Calls Tryz.prog 43 #[ptr c, polV 4 2 2] wa (CaOut own2 wa c (smN 9 6 9) p awT2 (.tuple #[.int .i64 0, .int .i64 0]))) := HT2
      have Da := Lib.hid (HG1.out.2.2.2.trans da)
      clear ha da ga oa HT
      go_wp2_with (first
        | (refine wpList_load_mid rfl _ _ rfl _ _ rfl _ _ ra hut rfl hsi ?_)
        | fail)
      refine HT2.out.mono ?_
      rintro e wb ⟨rfl, own3, hb, db⟩
      have HD := Lib.hid (wb_dirty hb)
      have Db := Lib.hid (And.intro hb (Da.out.trans db))
      clear hb db HT2 ra
      go_wp2_with fail
      refine HD.out.mono ?_
      rintro e wc ⟨v, rfl, hs, -, hbc⟩
      rw [List.length_map, awT_d] at hs
      obtain ⟨av, cv, rfl⟩ := hs.rd.nil_iff
      have HB := Lib.hid hbc
      clear hs hbc HD
      go_wp2
      go_ret
      exact ⟨rfl, (Db.out.2.below H2.out.2.1 H2.out.2.2).trans (HB.out.mono (Db.out.2.below H2.out.2.1 H2.out.2.2).size)⟩
structure Op15 where
  dd : Int
  bb : Int
  nn : Int
  mm : Int
  deriving Inhabited
abbrev op15C (o : Op15) : List Value := [.int .i64 o.dd, .int .i64 o.bb, .int .i64 o.nn, .int .i64 o.mm]
def ops15 (l : List Op15) : List Value := l.flatMap op15C
theorem ops15_at {l : List Op15} {k : Nat} (h : k < l.length) : (ops15 l)[k * 4]? = some (.int .i64 l[k].dd) ∧ (ops15 l)[k * 4 + 1]? = some (.int .i64 l[k].bb) ∧ (ops15 l)[k * 4 + 2]? = some (.int .i64 l[k].nn) ∧ (ops15 l)[k * 4 + 3]? = some (.int .i64 l[k].mm) := by
  have h1 := flat_at (f := op15C) (k := 4) (fun _ => rfl) l k 0 (by omega) l[k] (by simp)
  have h2 := flat_at (f := op15C) (k := 4) (fun _ => rfl) l k 1 (by omega) l[k] (by simp)
  have h3 := flat_at (f := op15C) (k := 4) (fun _ => rfl) l k 2 (by omega) l[k] (by simp)
  have h4 := flat_at (f := op15C) (k := 4) (fun _ => rfl) l k 3 (by omega) l[k] (by simp)
  unfold ops15
  exact ⟨by simpa using h1, by simpa using h2, by simpa using h3, by simpa using h4⟩
theorem op15_cells {w : World} {v : Value} {l : List Op15} (h : Rd w 4 v l.length (ops15 l)) {k : Nat} (hk : k < l.length) : ∃ bl off c, v = .slice (some ⟨bl, off, none⟩) l.length c ∧ bl < w.heap.size ∧
    w.cell? ⟨bl, off + k * 4, none⟩ = some (.int .i64 l[k].dd) ∧ w.cell? ⟨bl, off + k * 4 + 1, none⟩ = some (.int .i64 l[k].bb) ∧ w.cell? ⟨bl, off + k * 4 + 2, none⟩ = some (.int .i64 l[k].nn) ∧ w.cell? ⟨bl, off + k * 4 + 3, none⟩ = some (.int .i64 l[k].mm) := by
  obtain ⟨bl, off, c, rfl, hb, hc⟩ := h.at (by omega)
  obtain ⟨h0, h1, h2, h3⟩ := ops15_at hk
  exact ⟨bl, off, c, rfl, hb, hc _ _ h0, hc (k * 4 + 1) _ h1, hc (k * 4 + 2) _ h2, hc (k * 4 + 3) _ h3⟩
def Few15 (b s j : Int) (l : List Op15) : Prop := (∀ k (h : k < l.length), 0 ≤ l[k].nn ∧ l[k].nn ≤ 255) ∧ (1 ≤ b ∧ b ≤ 12) ∧ (1 ≤ s ∧ s ≤ 8) ∧ (4 ≤ j ∧ j ≤ 12) ∧ l.length ≤ 60
def FewOut (w : World) (b s j : Int) (l : List Op15) (e : Ending) (w' : World) : Prop := ∃ q, e = .returned (.bool q) ∧ (q = true ↔ Few15 b s j l) ∧ Below w.heap.size w w'
abbrev threeV (b s j : Int) : Value := .agg #[.int .i64 b, .int .i64 s, .int .i64 j]
set_option maxRecDepth 100000 in
set_option maxHeartbeats 2000000 in
theorem few15 (b s j : Int) (v : Value) (l : List Op15) (w : World) (hv : Rd w 4 v l.length (ops15 l)) : Calls Tryz.prog 37 #[threeV b s j, v] w (FewOut w b s j l) := by
  obtain ⟨w1, hw1⟩ : ∃ w1, w1 = w.alloc (.cells #[.int .i64 b, .int .i64 s, .int .i64 j] 76) := ⟨_, rfl⟩
  have g1 : w1.heap[w.heap.size]? = some (.cells #[.int .i64 b, .int .i64 s, .int .i64 j] 76 (0, 0)) := by rw [hw1]; exact heap_alloc_last w _ rfl
  have hb1 : Below w.heap.size w w1 := by rw [hw1]; exact (Below.refl _ w).alloc (Nat.le_refl _) _
  have k0 := cell_of_block g1 0
  have k1 := cell_of_block g1 1
  have k2 := cell_of_block g1 2
  simp at k0 k1 k2
  have hle := hv.le
  unfold maxLen at hle
  have HV := Lib.hid (And.intro hv hb1)
  have HW := Lib.hid hw1
  obtain ⟨ao, c, rfl⟩ := hv.nil_iff
  clear hv g1 hb1 hw1
  go_enter Tryz.func37, Tryz.ntmps37
  go_wp2_with fail
  rw [← HW.out]
  go_loopg [5] l.length (fun g i wr => ∃ k : Nat, k + g = l.length ∧ i = .int .i64 (k : Int) ∧ (∀ m (h : m < l.length), m < k → 0 ≤ l[m].nn ∧ l[m].nn ≤ 255) ∧ wr = w1)
  case atStart => exact ⟨0, by omega, rfl, fun m h hm => absurd hm (Nat.not_lt_zero _), rfl⟩
  case round =>
    obtain ⟨k, hk, rfl, hP, hwr⟩ := hrel
    subst hwr
    have HP := Lib.hid hP
    clear hP
    by_cases hlt : k < l.length
    · obtain ⟨bl, off, c', hvv, hbl, hc0, hc1, hc2, hc3⟩ := op15_cells HV.out.1 hlt
      cases hvv
      replace hc2 := (HV.out.2.cell (p := ⟨bl, off + k * 4 + 2, none⟩) hbl).trans hc2
      have hN : ¬ (0 ≤ l[k].nn ∧ l[k].nn ≤ 255) → ¬ Few15 b s j l := fun h hf => h (hf.1 k hlt)
      have hS : (0 ≤ l[k].nn ∧ l[k].nn ≤ 255) → ∀ m (h : m < l.length), m < k + 1 → 0 ≤ l[m].nn ∧ l[m].nn ≤ 255 := fun hx m h hm => by
        by_cases e : m = k
        · subst e; exact hx
        · exact HP.out m h (by omega)
      have q1 : (k : Int) < (l.length : Int) := by omega
      clear hc0 hc1 hc3 hbl
      generalize l[k].nn = x at *
      have HX := Lib.hid (And.intro hN hS)
      clear hN hS hlt
      by_cases hx : 0 ≤ x ∧ x ≤ 255
      · obtain ⟨x1, x2⟩ := hx
        have HS := Lib.hid (HX.out.2 ⟨x1, x2⟩)
        go_wp2
        go_roundg (gk - 1)
        case measure => omega
        case rel => exact ⟨k + 1, by omega, by go_num, HS.out, rfl⟩
      · have HN := Lib.hid (HX.out.1 hx)
        have hx' : x < 0 ∨ 255 < x := by omega
        clear hx
        go_wp2
        all_goals
          go_ret
          exact ⟨false, rfl, ⟨fun e => (by cases e), fun e => absurd e HN.out⟩, HV.out.2⟩
    · obtain rfl : k = l.length := by omega
      have hA : ∀ m (h : m < l.length), 0 ≤ l[m].nn ∧ l[m].nn ≤ 255 := fun m h => HP.out m h h
      have HA := Lib.hid hA
      clear hA hlt
      by_cases h7 : l.length ≤ 60
      · have q7 : decide ((l.length : Int) ≤ 60) = true := by simp; omega
        by_cases hR : (1 ≤ b ∧ b ≤ 12) ∧ (1 ≤ s ∧ s ≤ 8) ∧ (4 ≤ j ∧ j ≤ 12)
        · have HR := Lib.hid (And.intro hR h7)
          obtain ⟨⟨r1, r2⟩, ⟨r3, r4⟩, ⟨r5, r6⟩⟩ := hR
          go_wp2
          go_ret
          exact ⟨true, by first | rfl | rw [q7], ⟨fun _ => ⟨HA.out, HR.out.1.1, HR.out.1.2.1, HR.out.1.2.2, HR.out.2⟩, fun _ => rfl⟩, HV.out.2⟩
        · have HR := Lib.hid hR
          have hN : b < 1 ∨ 12 < b ∨ s < 1 ∨ 8 < s ∨ j < 4 ∨ 12 < j := by omega
          clear hR
          go_wp2
          all_goals
            go_ret
            exact ⟨false, rfl, ⟨fun e => (by cases e), fun e => absurd ⟨e.2.1, e.2.2.1, e.2.2.2.1⟩ HR.out⟩, HV.out.2⟩
      · have q7 : decide ((l.length : Int) ≤ 60) = false := by simp; omega
        have HR := Lib.hid h7
        go_wp2
        all_goals
          go_ret
          exact ⟨false, by first | rfl | rw [q7], ⟨fun e => (by cases e), fun e => absurd e.2.2.2.2 HR.out⟩, HV.out.2⟩
def play1 (n : CaN) (hi lo ba : Int) (s : CaS × List Int) (o : Op15) : CaS × List Int :=
  if o.dd = 0 then ((s.1.wrote n o.bb (fillB o.nn.toNat) o.mm).1, if (s.1.wrote n o.bb (fillB o.nn.toNat) o.mm).2 = 0 ∧ 0 ≤ o.bb ∧ o.bb < (n.bl : Int) then s.2.set o.bb.toNat o.nn else s.2)
  else if o.dd = 1 then ((s.1.gone n o.bb).1, if (s.1.gone n o.bb).2 = 0 ∧ 0 ≤ o.bb ∧ o.bb < (n.bl : Int) then s.2.set o.bb.toNat 0 else s.2)
  else if o.dd = 2 then ((s.1.wstep n o.nn).1, s.2)
  else if o.dd = 3 then ((s.1.tick n hi lo ba).1, s.2)
  else if o.dd = 4 then ((s.1.committed n).1, s.2) else s
def playA (n : CaN) (hi lo ba : Int) (l : List Op15) : CaS × List Int := l.foldl (play1 n hi lo ba) (madeS n, List.replicate 12 0)
theorem playA_next (n : CaN) (hi lo ba : Int) {l : List Op15} {k : Nat} (h : k < l.length) : playA n hi lo ba (l.take (k + 1)) = play1 n hi lo ba (playA n hi lo ba (l.take k)) l[k] := by
  rw [List.take_succ_eq_append_getElem h, playA, List.foldl_append]
  rfl
def valsN (now : List Int) : Nat → Bk := fun k => fillB (now.getD k 0).toNat
theorem valsN_set {now : List Int} {k : Nat} (h : k < now.length) (y : Int) : updV (valsN now) k (fillB y.toNat) = valsN (now.set k y) := by
  funext m
  unfold updV valsN
  rw [getD_set]
  by_cases e : m = k
  · subst e; rw [if_pos rfl, if_pos ⟨rfl, h⟩]
  · rw [if_neg e, if_neg (fun h => e h.1.symm)]
theorem play1_inv {n : CaN} {hi lo ba : Int} {a : CaS} {now : List Int} {N : Nat} (h : Inv15 n a (valsN now) N) (hg : a.Jg n) (h1 : 1 ≤ a.next) (hj : 4 ≤ n.jo) (hl : now.length = 12) (hb : n.bl ≤ 12) (hB : 3 * n.pa + n.jo + 6 ≤ 60) (hS : n.bl * (n.pa + 2) ≤ 60) (o : Op15) :
    Inv15 n (play1 n hi lo ba (a, now) o).1 (valsN (play1 n hi lo ba (a, now) o).2) (N + 60) ∧ (play1 n hi lo ba (a, now) o).2.length = 12 := by
  have hz : zB = fillB (0 : Int).toNat := rfl
  unfold play1
  dsimp only
  split
  · obtain ⟨w1, w2⟩ := h.wrote hg h1 hj o.bb (fillB o.nn.toNat) o.mm
    by_cases hk : (0 ≤ o.bb ∧ o.bb < (n.bl : Int)) ∧ (0 ≤ o.mm ∧ o.mm < 3)
    · obtain ⟨e, hI⟩ := w1 hk
      rw [if_pos ⟨e, hk.1.1, hk.1.2⟩, ← valsN_set (by omega)]
      exact ⟨hI.mono (by omega), by rw [List.length_set]; exact hl⟩
    · obtain ⟨e, hI⟩ := w2 hk
      rw [if_neg (fun x => e x.1), hI]
      exact ⟨h.mono (by omega), hl⟩
  split
  · obtain ⟨w1, w2⟩ := h.gone h1 o.bb
    by_cases hk : 0 ≤ o.bb ∧ o.bb < (n.bl : Int)
    · obtain ⟨e, hI⟩ := w1 hk
      rw [if_pos ⟨e, hk.1, hk.2⟩, ← valsN_set (by omega), ← hz]
      exact ⟨hI.mono (by omega), by rw [List.length_set]; exact hl⟩
    · obtain ⟨e, hI⟩ := w2 hk
      rw [if_neg (fun x => e x.1), hI]
      exact ⟨h.mono (by omega), hl⟩
  split
  · exact ⟨(h.step h1 o.nn).1.mono (by omega), hl⟩
  split
  · exact ⟨(h.tick h1 hi lo ba).1.mono (by omega), hl⟩
  split
  · exact ⟨(h.committed hg hj).2.mono (by omega), hl⟩
  · exact ⟨h.mono (by omega), hl⟩
theorem madeS_inv (n : CaN) (hn : (madeS n).dF.length = n.size) (hm : (madeS n).bF.length = n.bl) (hc : ∀ k, curB (madeS n).bF (madeS n).bO k = zB) : Inv15 n (madeS n) (valsN (List.replicate 12 0)) 3 := by
  have hp : ∀ k, plc (madeS n).ps k = (-1, false) := fun k => by
    show (List.replicate n.bl ((-1 : Int), false)).getD k (-1, false) = _
    rw [List.getD_eq_getElem?_getD, List.getElem?_replicate]
    split <;> rfl
  have hv : ∀ k, valsN (List.replicate 12 0) k = zB := fun k => by
    unfold valsN
    have : (List.replicate 12 (0 : Int)).getD k 0 = 0 := by
      rw [List.getD_eq_getElem?_getD, List.getElem?_replicate]
      split <;> rfl
    rw [this]
    rfl
  refine ⟨made_fit n, made_tie n, ⟨rfl, rfl⟩, hn, hm, List.length_replicate, fun k hk _ => ?_, fun k hk hd => absurd (hp k) hd⟩
  rw [hv, hc]
set_option maxRecDepth 100000 in
theorem ref_right (hi lo ba sl : Int) (w : World) : Calls Tryz.prog 46 #[.int .i64 hi, .int .i64 lo, .int .i64 ba, .int .i64 sl] w fun e w' => e = .returned (.bool (decide (rightP hi lo ba sl))) ∧ w' = w := by
  by_cases hR : rightP hi lo ba sl
  · rw [decide_eq_true hR]
    obtain ⟨r1, r2, r3, r4, r5⟩ := hR
    have q : decide (ba ≤ 64) = true := by simpa using r5
    go_enter Tryz.func46, Tryz.ntmps46
    go_wp2
    go_ret
    exact ⟨by first | rfl | rw [q], rfl⟩
  · rw [decide_eq_false hR]
    by_cases h5 : ba ≤ 64
    · have hN : lo < 0 ∨ hi < lo ∨ sl < hi ∨ ba < 1 := by unfold rightP at hR; omega
      have q : decide (ba ≤ 64) = true := by simpa using h5
      clear hR
      go_enter Tryz.func46, Tryz.ntmps46
      go_wp2
      all_goals
        go_ret
        exact ⟨by first | rfl | rw [q], rfl⟩
    · have q : decide (ba ≤ 64) = false := by simpa using h5
      clear hR
      go_enter Tryz.func46, Tryz.ntmps46
      go_wp2
      all_goals
        go_ret
        exact ⟨by first | rfl | rw [q], rfl⟩
def tickW (hi lo ba : Int) (dirty : Nat) : Int := if (dirty : Int) ≤ hi then 0 else if IntKind.i64.wrap ((dirty : Int) - lo) < ba then IntKind.i64.wrap ((dirty : Int) - lo) else ba
theorem tickW_eq {hi lo ba : Int} {dirty : Nat} (hd : dirty ≤ 5000) (hlo : 0 ≤ lo ∧ lo ≤ 5000) : tickW hi lo ba dirty = tickN hi lo ba dirty := by
  unfold tickW tickN
  rw [IntWalk.i64_in _ (show -9223372036854775808 ≤ (dirty : Int) - lo ∧ (dirty : Int) - lo ≤ 9223372036854775807 by omega)]
set_option maxRecDepth 100000 in
theorem ref_tick (hi lo ba : Int) (dirty : Nat) (w : World) : Calls Tryz.prog 87 #[.int .i64 hi, .int .i64 lo, .int .i64 ba, .int .i64 (dirty : Int)] w fun e w' => e = .returned (.int .i64 (tickW hi lo ba dirty)) ∧ w' = w := by
  unfold tickW
  by_cases h1 : (dirty : Int) ≤ hi
  · rw [if_pos h1]
    go_enter Tryz.func87, Tryz.ntmps87
    go_wp2
    go_ret
    exact ⟨rfl, rfl⟩
  · rw [if_neg h1]
    obtain ⟨x, hx⟩ : ∃ x, IntKind.i64.wrap ((dirty : Int) - lo) = x := ⟨_, rfl⟩
    rw [hx]
    by_cases h2 : x < ba
    · rw [if_pos h2]
      go_enter Tryz.func87, Tryz.ntmps87
      go_wp2
      go_ret
      exact ⟨rfl, rfl⟩
    · rw [if_neg h2]
      go_enter Tryz.func87, Tryz.ntmps87
      go_wp2
      go_ret
      exact ⟨rfl, rfl⟩
theorem results_mix4 {P : Program} {fn : Func} {s t p u : Tmp} {ty : TypeId} (h : fn.results = #[.tmp s, .tmp t, .cell p ty, .tmp u]) (tmps : Array Value) (w : World) (b o : Nat) (cs : List Value) (d : TypeDesc)
    (hp : tmps.getD p undef = .pointer (some ⟨b, o, none⟩)) (hc : w.rangeAt b o cs) (hu : P.underlying ty = some d) (hd : d.isRow = true) (hi : (P.info? ty).map (·.size) = some cs.length) :
    (results fn tmps).run P w = .ok (.tuple #[tmps.getD s undef, tmps.getD t undef, .agg cs.toArray, tmps.getD u undef]) w := by
  have hp' : tmps[p]?.getD undef = .pointer (some ⟨b, o, none⟩) := by simpa using hp
  simp [results, h, hp', asAddr, run_loadVar_mid w b o ty cs d hc hu hd hi, Result.andThen]
abbrev zeros12 : Array Value := #[.int .i64 0, .int .i64 0, .int .i64 0, .int .i64 0, .int .i64 0, .int .i64 0, .int .i64 0, .int .i64 0, .int .i64 0, .int .i64 0, .int .i64 0, .int .i64 0]
structure PlAt (w : World) (b s j hi lo ba : Int) (c : Nat) (n : CaN) (p : CaP) (own : Nat → Nat) (X : World) (a : CaS) (now : List Int) : Prop where
  ca : CaAt own X c n p a
  z : ∀ i, i < w.heap.size + 4 → own i = 0
  be : Below w.heap.size w X
  g0 : X.heap[w.heap.size]? = some (.cells #[.int .i64 b, .int .i64 s, .int .i64 j] 76 (0, 0))
  g1 : X.heap[w.heap.size + 1]? = some (.cells #[.int .i64 hi, .int .i64 lo, .int .i64 ba] 94 (0, 0))
  g2 : X.heap[w.heap.size + 2]? = some (.cells zeros12 64 (0, 0))
  g3 : X.heap[w.heap.size + 3]? = some (.cells (now.map (Value.int .i64)).toArray 64 (0, 0))
  nl : w.heap.size > 0 ∧ w.heap.size > 1
section
variable {w : World} {b s j hi lo ba : Int} {c : Nat} {n : CaN} {p : CaP} {own own' : Nat → Nat} {X X' : World} {a a' : CaS} {now : List Int}
theorem PlAt.did (h : PlAt w b s j hi lo ba c n p own X a now) (hc : CaAt own' X' c n p a') (d : Did own own' X X') : PlAt w b s j hi lo ba c n p own' X' a' now where
  ca := hc
  z := fun i hi => by
    have hl : i < X.heap.size := by have := lt_of_block h.g3; omega
    rw [d.old i hl]
    exact h.z i hi
  be := below_upd h.be d.upd (Nat.le_refl _) (fun k hk => Nat.le_of_not_lt fun hlt => hk.1 (h.z k (by omega)))
  g0 := (d.still h.g0 (h.z _ (by omega))).1
  g1 := (d.still h.g1 (h.z _ (by omega))).1
  g2 := (d.still h.g2 (h.z _ (by omega))).1
  g3 := (d.still h.g3 (h.z _ (by omega))).1
  nl := h.nl
theorem PlAt.new (h : PlAt w b s j hi lo ba c n p own X a now) (hu : Upd (fun _ => False) X X') : PlAt w b s j hi lo ba c n p own X' a now := h.did (h.ca.new hu) (h.ca.didNew hu)
theorem PlAt.note (h : PlAt w b s j hi lo ba c n p own X a now) (k : Nat) (x : Int) : PlAt w b s j hi lo ba c n p own (X.setCell ⟨w.heap.size + 3, k, none⟩ (.int .i64 x)) a (now.set k x) := by
  have hu := upd_setCell X (w.heap.size + 3) k (.int .i64 x)
  have hn := h.nl
  refine ⟨h.ca.nobody hu (fun i e => by subst e; exact ⟨h.z _ (by omega), by omega, by omega⟩), h.z, below_upd h.be hu (Nat.le_refl _) (fun k e => by omega),
    (hu.block _ (lt_of_block h.g0) (by omega)).trans h.g0, (hu.block _ (lt_of_block h.g1) (by omega)).trans h.g1, (hu.block _ (lt_of_block h.g2) (by omega)).trans h.g2, ?_, h.nl⟩
  have := heap_setCell_same h.g3 k (.int .i64 x)
  rw [this]
  congr 2
  rw [List.map_set, ← List.setIfInBounds_toArray]
end
def PlayedOut (w : World) (n : CaN) (hi lo ba : Int) (l : List Op15) (e : Ending) (w' : World) : Prop :=
  ∃ c p own, e = .returned (.tuple #[ptr c, ptr p.back, .agg ((playA n hi lo ba l).2.map (Value.int .i64)).toArray, .bool true]) ∧ CaAt own w' c n p (playA n hi lo ba l).1 ∧ Inv15 n (playA n hi lo ba l).1 (valsN (playA n hi lo ba l).2) (3 + l.length * 60) ∧
    (playA n hi lo ba l).2.length = 12 ∧ Below w.heap.size w w' ∧ ∀ i, i < w.heap.size → own i = 0
theorem madeS_inv0 (n : CaN) : Inv15 n (madeS n) (valsN (List.replicate 12 0)) 3 := by
  refine madeS_inv n ?_ ?_ ?_
  · show (flushF _ _).length = n.size
    rw [flushF_len, flushF_len]
    exact List.length_replicate
  · show (flushF _ _).length = n.bl
    rw [flushF_len]
    exact List.length_replicate
  · intro k
    show (flushF (flushF (List.replicate n.bl zB) []) []).getD k zB = zB
    show (List.replicate n.bl zB).getD k zB = zB
    rw [List.getD_eq_getElem?_getD, List.getElem?_replicate]
    split <;> rfl
theorem run_neq_bk (x y : Bk) (hx : x.length = 64) (hy : y.length = 64) (w : World) : (binOp .neq 23 (.agg (bkC x).toArray) (.agg (bkC y).toArray)).run Tryz.prog w = .ok (.bool (!(x == y))) w := by
  have e : (Op.equalIn 10000 23 (.agg (bkC x).toArray) (.agg (bkC y).toArray)).run Tryz.prog w = .ok (x == y) w := run_equalIn_bytes w 9998 23 5 64 Tryz.underlying23 Tryz.underlying5 sizeU8 x y hx hy
  rw [run_neq_struct, e]
  rfl
def Nums15 (now : List Int) : Prop := now.length = 12 ∧ ∀ k, 0 ≤ now.getD k 0 ∧ now.getD k 0 ≤ 255
theorem nums_set {now : List Int} (h : Nums15 now) (k : Nat) {x : Int} (hx : 0 ≤ x ∧ x ≤ 255) : Nums15 (now.set k x) := by
  refine ⟨by rw [List.length_set]; exact h.1, fun m => ?_⟩
  rw [getD_set]
  split
  · exact hx
  · exact h.2 m
theorem play1_nums {n : CaN} {hi lo ba : Int} {s : CaS × List Int} (h : Nums15 s.2) (o : Op15) (ho : 0 ≤ o.nn ∧ o.nn ≤ 255) : Nums15 (play1 n hi lo ba s o).2 := by
  unfold play1
  split
  · dsimp only
    split
    · exact nums_set h _ ho
    · exact h
  split
  · dsimp only
    split
    · exact nums_set h _ (by omega)
    · exact h
  split
  · exact h
  split
  · exact h
  split
  · exact h
  · exact h
theorem playA_nums (n : CaN) (hi lo ba : Int) : ∀ (l : List Op15), (∀ k (h : k < l.length), 0 ≤ l[k].nn ∧ l[k].nn ≤ 255) → Nums15 (playA n hi lo ba l).2 := by
  intro l hl
  unfold playA
  have h0 : Nums15 ((madeS n, List.replicate 12 0) : CaS × List Int).2 := by
    refine ⟨List.length_replicate, fun k => ?_⟩
    show 0 ≤ (List.replicate 12 (0 : Int)).getD k 0 ∧ (List.replicate 12 (0 : Int)).getD k 0 ≤ 255
    rw [List.getD_eq_getElem?_getD, List.getElem?_replicate]
    split <;> simp
  revert h0
  generalize ((madeS n, List.replicate 12 0) : CaS × List Int) = s
  induction l generalizing s with
  | nil => exact fun h => h
  | cons x l ih =>
    intro h
    exact ih (fun k hk => hl (k + 1) (by simpa using hk)) _ (play1_nums h x (hl 0 (by simp)))
section
variable {own : Nat → Nat} {w : World} {c : Nat} {n : CaN} {p : CaP} {a : CaS} {now : List Int}
set_option maxRecDepth 100000 in
set_option maxHeartbeats 2000000 in
theorem reads15 (h : CaAt own w c n p a) (hv : a.Val n (valsN now)) (hP : a.NoP) (hn : Nums15 now) (hb : n.bl ≤ 12) :
    Calls Tryz.prog 44 #[ptr c, .agg (now.map (Value.int .i64)).toArray, .int .i64 (n.bl : Int)] w (CaOut own w c n p a (.bool true)) := by
  obtain ⟨A, hA⟩ : ∃ A, A = w.heap.size := ⟨_, rfl⟩
  obtain ⟨NL, hNL⟩ : ∃ NL, NL = (now.map (Value.int .i64)).toArray := ⟨_, rfl⟩
  rw [← hNL]
  obtain ⟨w1, hw1⟩ : ∃ w1, w1 = w.alloc (.cells NL 64) := ⟨_, rfl⟩
  have hu1 : Upd (fun _ => False) w w1 := by rw [hw1]; exact (Upd.refl _ w).alloc _
  have g1 : w1.heap[A]? = some (.cells NL 64 (0, 0)) := by rw [hw1, hA]; exact heap_alloc_last w _ rfl
  have oA : own A = 0 := h.far _ (by omega)
  have HH := Lib.hid (And.intro (h.new hu1) (And.intro (h.didNew hu1) (And.intro g1 (And.intro oA (And.intro hv (And.intro hP (And.intro hn (And.intro hb hNL))))))))
  have HW := Lib.hid (And.intro hw1 hA)
  clear h hv hP hn hb hw1 hu1 g1 oA hNL
  go_enter Tryz.func44, Tryz.ntmps44
  go_upto_region 1 with fail
  rw [← HW.out.1, ← hA]
  clear hA
  go_wp2_with fail
  go_loopg [7] n.bl (fun g i wr => ∃ k : Nat, k + g = n.bl ∧ i = .int .i64 (k : Int) ∧ ∃ own', CaAt own' wr c n p a ∧ Did own own' w1 wr)
  case atStart => exact ⟨0, by omega, rfl, own, HH.out.1, Did.refl HH.out.1.far⟩
  case round =>
    obtain ⟨k, hk, rfl, own1, h1, d1⟩ := hrel
    by_cases hlt : k < n.bl
    · have q1 : (k : Int) < (n.bl : Int) := by omega
      have HR := Lib.hid (ca_read h1 (k : Int))
      obtain ⟨-, -, -, -, -, r6, r7⟩ := HH.out.2.2.2.2.1.readB (pl_nil HH.out.2.2.2.2.2.1.1) (pl_nil HH.out.2.2.2.2.2.1.2) hlt
      obtain ⟨r7, r8⟩ := r7 HH.out.2.2.2.2.2.1
      replace r6 := r6 r7
      rw [r6, r7, r8] at HR
      obtain ⟨x, hx⟩ := Int.eq_ofNat_of_zero_le (HH.out.2.2.2.2.2.2.1.2 k).1
      have hx255 : x ≤ 255 := by have := (HH.out.2.2.2.2.2.2.1.2 k).2; omega
      have hvx : valsN now k = fillB x := by unfold valsN; rw [hx]; rfl
      rw [hvx] at HR
      have q2 : k < 12 := by have := HH.out.2.2.2.2.2.2.2.1; omega
      have q3 : (k : Int) < 12 := by omega
      obtain ⟨gA, oA⟩ := d1.still HH.out.2.2.1 HH.out.2.2.2.1
      have cA : wr.cell? ⟨A, k, none⟩ = some (.int .i64 (x : Int)) := by
        refine (cell_of_block gA k).trans ?_
        rw [HH.out.2.2.2.2.2.2.2.2]
        have hl := HH.out.2.2.2.2.2.2.1.1
        rw [← hx]
        simp [List.getD_eq_getElem?_getD, hl, q2]
      have HF := Lib.hid (fill_any x hx255)
      have H1 := Lib.hid (And.intro d1 (And.intro cA oA))
      clear h1 d1 r6 r7 r8 hx hx255 hvx gA cA oA hlt
      generalize hF3 : fillB x = F3 at *
      have hF3l : F3.length = 64 := by rw [← hF3]; exact fillB_len x
      have HF3 := Lib.hid hF3l
      clear hF3 hF3l
      go_wp2_with fail
      refine HR.out.mono ?_
      rintro e w5 ⟨y, cd, hy, hcd, hyl, rfl, own5, h5, d5⟩
      subst hcd hy
      obtain ⟨w6, hw6⟩ : ∃ w6, w6 = w5.alloc (.cells (bkC y).toArray 23) := ⟨_, rfl⟩
      have hu6 : Upd (fun _ => False) w5 w6 := by rw [hw6]; exact (Upd.refl _ w5).alloc _
      have g6 : w6.heap[w5.heap.size]? = some (.cells (bkC y).toArray 23 (0, 0)) := by rw [hw6]; exact heap_alloc_last w5 _ rfl
      obtain ⟨gb, hgb⟩ : ∃ gb, gb = w5.heap.size := ⟨_, rfl⟩
      rw [← hgb] at g6
      have r6 := range_of_block g6
      have cA := hu6.cellv (d5.upd.cellv H1.out.2.1 (fun h => h.1 H1.out.2.2)) (fun h => h)
      have hud := (Upd.refl (fun _ => False) w6).drew
      have H6 := Lib.hid (And.intro (h5.new (hu6.trans hud)) (((H1.out.1).trans d5).trans (h5.didNew (hu6.trans hud))))
      have HW6 := Lib.hid (And.intro hw6 hgb)
      have hgo : own5 gb = 0 := h5.far _ (by omega)
      have HG := Lib.hid hgo
      have heq : ∀ W : World, (binOp .neq 23 (.agg (bkC y).toArray) (.agg (bkC y).toArray)).run Tryz.prog W = .ok (.bool false) W := by
        intro W; rw [run_neq_bk _ _ hyl hyl]; simp
      have hsi := sizeBk y hyl
      have hut := Tryz.underlying23
      clear h5 d5 hu6 g6 hud hw6 hgb HR hgo
      go_upto_region 5 with (first
        | (refine wpList_store_new rfl _ _ _ rfl _ _ (bkC y) rfl rfl (by rw [bkC_len, hyl]; rfl) hsi (bkC_one y) ?_)
        | fail)
      rw [← HW6.out.1, ← HW6.out.2]
      refine wp_region_held_drew (S := fun W => W.rangeAt gb 0 (bkC y) ∧ W.cell? ⟨A, k, none⟩ = some (.int .i64 (x : Int))) (by kernel_rfl) (⟨by rw [World.rangeAt_drew]; exact r6, by rw [World.cell?_drew]; exact cA⟩) (fun hHeld => ?_)
      refine Wl.i [0, 1, 2] ?_; iterate 3 refine Wl.t hHeld ?_
      refine Wl.o ?_
      refine Wl.l 3 (fun w h => h.1) hut hsi hHeld ?_
      refine Wl.i [4, 5, 6] ?_; iterate 3 refine Wl.t hHeld ?_
      refine Wl.o ?_
      refine Wl.r 7 (fun K hK => ?_)
      go_simp
      refine (HF.out _).mono ?_
      rintro e w7 ⟨rfl, hb7⟩
      have hu7 : Upd (fun _ => False) w6.drew w7 := Upd.of_below hb7
      have r7 := hu7.range (show w6.drew.rangeAt gb 0 (bkC y) from by rw [World.rangeAt_drew]; exact r6) (fun h => h)
      have c7 := hu7.cellv (show w6.drew.cell? ⟨A, k, none⟩ = some (.int .i64 (x : Int)) from by rw [World.cell?_drew]; exact cA) (fun h => h)
      have H7 := Lib.hid (And.intro (H6.out.1.new hu7) (H6.out.2.trans (H6.out.1.didNew hu7)))
      clear hb7 hu7
      refine hK.out _ _ (⟨r7, c7⟩) (fun hH1 => ?_)
      clear hK K
      refine Wl.i [8] (Wl.t hH1 (Wl.o ?_))
      refine Wl.r 9 (fun K hK => ?_)
      go_simp
      refine hK.out _ _ (hH1) (fun hH2 => ?_)
      clear hK K
      refine Wl.d ?_
      clear hHeld hH1 r6 cA r7 c7 HF
      go_wp2
      go_roundg (gk - 1)
      case measure => omega
      case rel => exact ⟨k + 1, by omega, by go_num, _, H7.out.1, H7.out.2⟩
    · obtain rfl : k = n.bl := by omega
      have q1 : ¬ ((n.bl : Int) < (n.bl : Int)) := by omega
      have H1 := Lib.hid (And.intro h1 (HH.out.2.1.trans d1))
      clear h1 d1 hlt hk
      go_wp2
      go_ret
      exact ⟨rfl, own1, H1.out.1, H1.out.2⟩
end
end Go.Proofs.YtnadilfobmgebaaGreatDoor
