/- What a function answers that is handed in (guard), for a log's things. A log: number, New, Len. A cache's numbers and devices; its logs (logs.Open). lavabolaw14.back: a block is written back, whatever is planned. lavaboref14.Past in memory: of each block what it may be. -/
import Derived.Test.YtfhfbpmlnjdfoaaGreatDoorG28
import Derived.Defers
import Derived.Recover
import Derived.Test.YtfhfbpmlnjdfoaaGreatDoorG07
import Derived.Test.YtfhfbpmlnjdfoaaGreatDoorG27
import Derived.Test.YtfhfbpmlnjdfoaaGreatDoorG23
import Derived.Test.YtfhfbpmlnjdfoaaGreatDoorG26
import Derived.Test.YtfhfbpmlnjdfoaaGreatDoorG24
import Derived.Test.YtfhfbpmlnjdfoaaGreatDoorG02
import Derived.Test.YtfhfbpmlnjdfoaaGreatDoorG03
namespace Go.Proofs.YtfhfbpmlnjdfoaaGreatDoor
open Go Go.RowKit
section
variable {own own' : Nat → Nat} {w w' : World} {c : Nat} {n : CaN} {p : CaP} {a : CaS}
theorem cdevs (h : CaAt own w c n p a) : Calls Tryz.prog 91 #[ptr c] w fun e w' => e = .returned (.tuple #[ptr p.ssd, ptr p.back]) ∧ Upd (fun _ => False) w w' := by
  obtain ⟨c14, c15, -⟩ := h.cells
  clear h
  go_enter Tryz.func91, Tryz.ntmps91
  go_wp2
  go_quiet (fail)
  have hu : Upd (fun _ => False) w (w.drewN nq) := (Upd.refl _ w).drewN nq
  generalize w.drewN nq = w2 at *
  go_wp2
  go_ret2
  exact ⟨rfl, hu⟩
theorem C_one (n : CaN) : ∀ v ∈ n.C, v.oneCell' = true := by
  intro v hv
  simp only [CaN.C, List.mem_cons, List.not_mem_nil, or_false] at hv
  rcases hv with rfl | rfl | rfl | rfl | rfl | rfl | rfl <;> rfl
theorem lay_one (sl jo pa lo : Nat) : ∀ v ∈ layC sl jo pa lo, v.oneCell' = true := by
  intro v hv
  simp only [List.mem_cons, List.not_mem_nil, or_false] at hv
  rcases hv with rfl | rfl | rfl | rfl | rfl | rfl | rfl <;> rfl
set_option maxRecDepth 100000 in
theorem clayout (h : CaAt own w c n p a) : Calls Tryz.prog 34 #[ptr c] w fun e w' => e = .returned (.agg (layC n.sl n.jo n.pa n.lo).toArray) ∧ Below w.heap.size w w' := by
  obtain ⟨U, hU⟩ : ∃ U, U = layC n.sl n.jo n.pa n.lo := ⟨_, rfl⟩
  have hU7 : U.length = 7 := by rw [hU]; rfl
  have hr : w.rangeAt c 7 U := fun j v hv => by
    have := range_of_block h.str (7 + j) v (by
      rw [caC, List.getElem?_append_right (by show (7 : Nat) ≤ 7 + j; omega), show 7 + j - n.C.length = j by show 7 + j - 7 = j; omega, List.getElem?_append_left (by have := (List.getElem?_eq_some_iff.1 hv).1; rw [hU] at this; exact this), ← hU]; exact hv)
    rw [Nat.zero_add] at this
    exact this
  have hs : (Tryz.prog.info? 43).map (·.size) = some U.length := by rw [hU7]; exact infoLay
  have h1 : ∀ v ∈ U, v.oneCell' = true := by rw [hU]; exact lay_one _ _ _ _
  rw [← hU]
  have H := Lib.hid (And.intro hs (And.intro h1 hU7))
  clear h hU hs h1 hU7
  go_enter Tryz.func34, Tryz.ntmps34
  go_wp2_with (first
    | (refine wpList_load_mid rfl _ _ rfl _ _ rfl _ _ (World.rangeAt_alloc hr _) Tryz.underlying43 rfl H.out.1 ?_)
    | (refine wpList_store_new rfl _ _ _ rfl _ _ _ rfl rfl (by rw [H.out.2.2]; rfl) H.out.1 H.out.2.1 ?_)
    | fail)
  refine bodyPost_ret (results_mid1 rfl _ _ w.heap.size 0 U _ rfl (range_of_block (heap_alloc_last w _ rfl)) Tryz.underlying43 rfl H.out.1) rfl ⟨rfl, (Below.refl _ w).alloc (Nat.le_refl _) _⟩
end
section
variable {own : Nat → Nat} {w w' : World} {c : Nat} {n : CaN} {p : CaP} {a : CaS} {N : Nat}
theorem getV_dirt {ps : List (Int × Bool)} {k : Int} (h : (getV ps k).2 = true) : ∃ m : Nat, m < ps.length ∧ k = (m : Int) ∧ (plc ps m).2 = true ∧ plc ps m ≠ (-1, false) := by
  by_cases hc : getC ps k = 0
  · obtain ⟨m, h1, rfl, h3⟩ := getC_iff.1 hc
    rw [getV_at h1 h3] at h
    exact ⟨m, h1, rfl, h, h3⟩
  · rw [getV_bad hc] at h; cases h
set_option maxRecDepth 100000 in
set_option maxHeartbeats 1000000 in
theorem back14_no (h : CaAt own w c n p a) (k : Int) (hd : (getV a.ps k).2 = false) : Calls Tryz.prog 90 #[ptr c, .int .i64 k] w (CaOut own w c n p a (.int .i64 0)) := by
  have HP := Lib.hid (ca_place h k)
  obtain ⟨s, hs⟩ : ∃ s, s = (getV a.ps k).1 := ⟨_, rfl⟩
  obtain ⟨b, hb⟩ : ∃ b, b = (getC a.ps k == 0) := ⟨_, rfl⟩
  rw [← hs, hd, ← hb] at HP
  clear h hd hs hb
  go_enter Tryz.func90, Tryz.ntmps90
  go_wp2_with fail
  refine HP.out.mono ?_
  rintro e w2 ⟨rfl, own2, h2, d2⟩
  obtain ⟨w3, hw3⟩ : ∃ w3, w3 = w2.alloc (.cells #[.int .i64 s, .bool false] 95) := ⟨_, rfl⟩
  have hu3 : Upd (fun _ => False) w2 w3 := by rw [hw3]; exact (Upd.refl _ w2).alloc _
  have g3 : w3.heap[w2.heap.size]? = some (.cells #[.int .i64 s, .bool false] 95 (0, 0)) := by rw [hw3]; exact heap_alloc_last w2 _ rfl
  have c1 := cell_of_block g3 1
  have H3 := Lib.hid (And.intro (h2.new hu3) (And.intro (d2.trans (h2.didNew hu3)) hw3))
  rw [hw3] at c1
  clear h2 d2 hw3 hu3 g3 HP
  cases b
  · go_wp2
    go_ret
    rw [← H3.out.2.2]
    exact ⟨rfl, own2, H3.out.1, H3.out.2.1⟩
  · go_wp2
    go_ret
    rw [← H3.out.2.2]
    exact ⟨rfl, own2, H3.out.1, H3.out.2.1⟩
set_option maxRecDepth 100000 in
set_option maxHeartbeats 1000000 in
theorem ca_back14 (h : CaAt own w c n p a) (hg : a.Gd n N) (hN : N + 2 ≤ 50000) (k : Int) : Calls Tryz.prog 90 #[ptr c, .int .i64 k] w (CaOut own w c n p (a.back14 n k).1 (.int .i64 (a.back14 n k).2)) := by
  cases hd : (getV a.ps k).2
  case' false =>
    have e : a.back14 n k = (a, 0) := by unfold CaS.back14; rw [if_pos hd]
    rw [e]
    exact back14_no h k hd
  obtain ⟨m, hm, rfl, h1, h2⟩ := getV_dirt hd
  have hgc : getC a.ps (m : Int) = 0 := getC_iff.2 ⟨m, hm, rfl, h2⟩
  have HPl := Lib.hid (ca_place h (m : Int))
  obtain ⟨s, hs⟩ : ∃ s, s = (getV a.ps (m : Int)).1 := ⟨_, rfl⟩
  rw [← hs, hd, hgc] at HPl
  replace HPl : Hid (Calls Tryz.prog 37 #[ptr c, .int .i64 (m : Int)] w (CaOut own w c n p a (.tuple #[placeV s true, .bool true]))) := HPl
  have hb := hg.readB (m : Int)
  have hmb : m < n.bl := by rw [← h.pl]; exact hm
  have E : a.back14 n (m : Int) = if (a.readB n (m : Int)).2.2 ≠ 0 then ((a.readB n (m : Int)).1, (a.readB n (m : Int)).2.2) else (a.readB n (m : Int)).1.back14w n (m : Int) (a.readB n (m : Int)).2.1 := by
    conv => lhs; unfold CaS.back14
    rw [if_neg (by rw [hd]; decide)]
  rw [E]
  have HRd : ∀ {own1 : Nat → Nat} {w1 : World}, CaAt own1 w1 c n p a → Calls Tryz.prog 45 #[ptr c, .int .i64 (m : Int)] w1 (CaRead own1 w1 c n p (a.readB n (m : Int)).1 (a.readB n (m : Int)).2.1 (a.readB n (m : Int)).2.2) := fun h1 => ca_read h1 (m : Int)
  obtain ⟨r, hr⟩ : ∃ r, r = a.readB n (m : Int) := ⟨_, rfl⟩
  rw [← hr] at HRd hb ⊢
  obtain ⟨b, x, c0⟩ := r
  dsimp only at HRd hb ⊢
  unfold CaS.back14w
  rw [Int.toNat_natCast]
  obtain ⟨r1, hr1⟩ : ∃ r1, r1 = writeR b.bF b.bO b.bP m x := ⟨_, rfl⟩
  have HW : ∀ {own1 : Nat → Nat} {w1 : World}, CaAt own1 w1 c n p b → x.length = 64 → Calls Tryz.prog 18 #[ptr p.back, .int .i64 (m : Int), .agg (bkC x).toArray] w1 (CaOut own1 w1 c n p (b.bdev r1) (.int .i64 r1.cd)) := fun h1 hl => by
    rw [hr1]
    exact ca_back_write h1 m (by rw [h1.gl]; exact hmb) x hl (by have := hb.fit.bO; omega)
  have f1 : (b.bdev r1).Fit (N + 1) := by rw [hr1]; exact hb.fit.bw m x
  have t1 : (b.bdev r1).Tie n none := { hb.tie with }
  rw [← hr1]
  obtain ⟨b1, hb1⟩ : ∃ b1, b1 = b.bdev r1 := ⟨_, rfl⟩
  rw [← hb1] at HW f1 t1 ⊢
  have f2 := f1.fb
  have t2 : b1.fb.Tie n none := { t1 with }
  have HF : ∀ {own1 : Nat → Nat} {w1 : World}, CaAt own1 w1 c n p b1 → Calls Tryz.prog 46 #[ptr p.back] w1 (CaOut own1 w1 c n p b1.fb (.int .i64 (flushR b1.bF b1.bO b1.bP).cd)) := fun h1 => ca_back_flush h1
  have HC : ∀ {own1 : Nat → Nat} {w1 : World}, CaAt own1 w1 c n p b1.fb → Calls Tryz.prog 168 #[ptr c, .int .i64 (m : Int)] w1 (CaOut own1 w1 c n p (b1.fb.cleaned n (m : Int)).1 (.int .i64 (b1.fb.cleaned n (m : Int)).2)) := fun h1 => ca_tidy h1 f2 (by omega) t2 (m : Int)
  unfold CaS.back14f
  obtain ⟨c2, hc2⟩ : ∃ c2, c2 = (flushR b1.bF b1.bO b1.bP).cd := ⟨_, rfl⟩
  rw [← hc2] at HF ⊢
  obtain ⟨b2, hb2⟩ : ∃ b2, b2 = b1.fb := ⟨_, rfl⟩
  rw [← hb2] at HF HC ⊢
  obtain ⟨⟨b3, c3⟩, hb3⟩ : ∃ q, q = b2.cleaned n (m : Int) := ⟨_, rfl⟩
  rw [← hb3] at HC ⊢
  obtain ⟨c1, hc1⟩ : ∃ c1, c1 = r1.cd := ⟨_, rfl⟩
  rw [← hc1] at HW ⊢
  dsimp only at HC ⊢
  have HH := Lib.hid (And.intro @HRd (And.intro @HW (And.intro @HF @HC)))
  obtain ⟨R, hRR⟩ : ∃ R, R = (if c0 ≠ 0 then (b, c0) else if c1 ≠ 0 then (b1, c1) else if c2 ≠ 0 then (b2, c2) else (b3, c3)) := ⟨_, rfl⟩
  rw [← hRR]
  have HR := Lib.hid hRR
  clear hRR h hg hN hm h1 h2 hgc hs hd hb hmb E HRd HW HF HC hr hr1 f1 t1 hb1 f2 t2 hc2 hb2 hb3 hc1
  go_enter Tryz.func90, Tryz.ntmps90
  go_wp2_with fail
  refine HPl.out.mono ?_
  rintro e w2 ⟨rfl, own2, h2, d2⟩
  obtain ⟨w3, hw3⟩ : ∃ w3, w3 = w2.alloc (.cells #[.int .i64 s, .bool true] 95) := ⟨_, rfl⟩
  have hu3 : Upd (fun _ => False) w2 w3 := by rw [hw3]; exact (Upd.refl _ w2).alloc _
  have g3 : w3.heap[w2.heap.size]? = some (.cells #[.int .i64 s, .bool true] 95 (0, 0)) := by rw [hw3]; exact heap_alloc_last w2 _ rfl
  have c1' := cell_of_block g3 1
  have H3 := Lib.hid (And.intro (h2.new hu3) (And.intro (d2.trans (h2.didNew hu3)) hw3))
  have HD := Lib.hid (cdevs H3.out.1)
  rw [hw3] at c1'
  clear h2 d2 hw3 hu3 g3 HPl
  go_wp2_with fail
  rw [← H3.out.2.2]
  refine HD.out.mono ?_
  rintro e w4 ⟨rfl, hu4⟩
  have H4 := Lib.hid (And.intro (H3.out.1.new hu4) (H3.out.2.1.trans (H3.out.1.didNew hu4)))
  have HRd := Lib.hid (HH.out.1 H4.out.1)
  clear hu4 c1' HD
  go_wp2_with fail
  refine HRd.out.mono ?_
  rintro e w5 ⟨y', cd, hy', hcd, hyl, rfl, own5, h5, d5⟩
  subst hcd
  obtain ⟨w6, hw6⟩ : ∃ w6, w6 = w5.alloc (.cells (bkC y').toArray 54) := ⟨_, rfl⟩
  have hu6 : Upd (fun _ => False) w5 w6 := by rw [hw6]; exact (Upd.refl _ w5).alloc _
  have g6 : w6.heap[w5.heap.size]? = some (.cells (bkC y').toArray 54 (0, 0)) := by rw [hw6]; exact heap_alloc_last w5 _ rfl
  have r6 := range_of_block g6
  have hsi := sizeBk y' hyl
  have H6 := Lib.hid (And.intro (h5.new hu6) (And.intro ((H4.out.2.trans d5).trans (h5.didNew hu6)) hw6))
  have hwr := HH.out.2.1 H6.out.1 (by rw [← hy']; exact hyl)
  rw [← hy'] at hwr
  have HW := Lib.hid hwr
  rw [hw6] at r6
  clear h5 d5 hw6 hu6 g6 hwr HRd hy'
  by_cases hc0 : cd = 0
  case' neg =>
    have q0 : (cd == 0) = false := by simpa using hc0
    have hr : R = (b, cd) := by rw [HR.out, if_pos hc0]
    have HK := Lib.hid (And.intro hr HW)
    clear hc0 HW hr
    go_wp2_with (first
      | (refine wpList_store_new rfl _ _ _ rfl _ _ (bkC y') rfl rfl (by rw [bkC_len, hyl]; rfl) hsi (bkC_one y') ?_)
      | fail)
    go_ret
    rw [← H6.out.2.2, HK.out.1]
    exact ⟨rfl, _, H6.out.1, H6.out.2.1⟩
  subst hc0
  go_wp2_with (first
    | (refine wpList_store_new rfl _ _ _ rfl _ _ (bkC y') rfl rfl (by rw [bkC_len, hyl]; rfl) hsi (bkC_one y') ?_)
    | (refine wpList_load_mid rfl _ _ rfl _ _ rfl _ _ r6 Tryz.underlying54 rfl hsi ?_)
    | fail)
  rw [← H6.out.2.2]
  refine HW.out.mono ?_
  rintro e w7 ⟨rfl, own7, h7, d7⟩
  have H7 := Lib.hid (And.intro h7 (H6.out.2.1.trans d7))
  have HF := Lib.hid (HH.out.2.2.1 h7)
  clear h7 d7 HW r6
  by_cases hc1 : c1 = 0
  case' neg =>
    have q0 : (c1 == 0) = false := by simpa using hc1
    have hr : R = (b1, c1) := by rw [HR.out, if_neg (fun h => h rfl), if_pos hc1]
    have HK := Lib.hid hr
    clear hc1 hr
    go_wp2
    go_ret
    rw [HK.out]
    exact ⟨rfl, own7, H7.out.1, H7.out.2⟩
  subst hc1
  go_wp2_with fail
  refine HF.out.mono ?_
  rintro e w8 ⟨rfl, own8, h8, d8⟩
  have H8 := Lib.hid (And.intro h8 (H7.out.2.trans d8))
  have HC := Lib.hid (HH.out.2.2.2 h8)
  clear h8 d8 HF
  by_cases hc2 : c2 = 0
  case' neg =>
    have q0 : (c2 == 0) = false := by simpa using hc2
    have hr : R = (b2, c2) := by rw [HR.out, if_neg (fun h => h rfl), if_neg (fun h => h rfl), if_pos hc2]
    have HK := Lib.hid hr
    clear hc2 hr
    go_wp2
    go_ret
    rw [HK.out]
    exact ⟨rfl, own8, H8.out.1, H8.out.2⟩
  subst hc2
  have hr : R = (b3, c3) := by rw [HR.out, if_neg (fun h => h rfl), if_neg (fun h => h rfl), if_neg (fun h => h rfl)]
  have HK := Lib.hid hr
  clear hr
  go_wp2_with fail
  refine HC.out.mono ?_
  rintro e w9 ⟨rfl, own9, h9, d9⟩
  have H9 := Lib.hid (And.intro h9 (H8.out.2.trans d9))
  clear h9 d9 HC
  go_wp2
  go_ret
  rw [HK.out]
  exact ⟨rfl, own9, H9.out.1, H9.out.2⟩
end
def PsEl (w : World) (M : Nat) (v : Value) : Prop := ∃ L : List Int, 1 ≤ L.length ∧ L.length ≤ M ∧ (∀ x ∈ L, 0 ≤ x ∧ x ≤ 255) ∧ Sl w 3 1 v L.length (ints L)
theorem PsEl.keep {w w' : World} {M : Nat} {v : Value} (h : PsEl w M v) {S : Nat → Prop} (hu : Upd S w w') (hs : ∀ g, v.ownBlock = some g → ¬ S g) : PsEl w' M v := by
  obtain ⟨L, h1, h2, h0, h3⟩ := h
  exact ⟨L, h1, h2, h0, h3.keep hu hs⟩
structure Pst (B : Nat → Prop) (w : World) (p N M : Nat) (vo : Value) (xs : List Value) : Prop where
  str : w.heap[p]? = some (.cells #[vo] 177 (0, 0))
  o : Sl w 87 1 vo N xs
  els : ∀ x ∈ xs, PsEl w M x
  bp : B p
  bo : ∀ g, vo.ownBlock = some g → B g ∧ g ≠ p
  bx : ∀ x ∈ xs, ∀ g, x.ownBlock = some g → B g ∧ g ≠ p ∧ vo.ownBlock ≠ some g
  dis : xs.Pairwise Dis
theorem Pst.keep {B S : Nat → Prop} {w w' : World} {p N M : Nat} {vo : Value} {xs : List Value} (h : Pst B w p N M vo xs) (hu : Upd S w w') (hS : ∀ j, B j → ¬ S j) : Pst B w' p N M vo xs :=
  { h with str := (hu.block p (lt_of_block h.str) (hS _ h.bp)).trans h.str, o := h.o.keep hu (fun g hg => hS g (h.bo g hg).1), els := fun x hx => (h.els x hx).keep hu (fun g hg => hS g (h.bx x hx g hg).1) }
theorem Pst.len {B : Nat → Prop} {w : World} {p N M : Nat} {vo : Value} {xs : List Value} (h : Pst B w p N M vo xs) : xs.length = N := by have := h.o.len; omega
theorem infoSI : (Tryz.prog.info? 87).map (fun i => (i.zero, i.size, i.bytes)) = some (some (.slice none 0 0), 1, 24) := by kernel_rfl
theorem infoI1 : (Tryz.prog.info? 3).map (fun i => (i.zero, i.size, i.bytes)) = some (some (.int .i64 0), 1, 8) := by kernel_rfl
theorem one_int (w : World) (x : Int) (hx : 0 ≤ x ∧ x ≤ 255) (M : Nat) (hM : 1 ≤ M) : PsEl (w.alloc (.cells #[.int .i64 x] 3)) M (.slice (some ⟨w.heap.size, 0, none⟩) 1 1) :=
  ⟨[x], Nat.le_refl _, hM, fun y hy => by rw [List.mem_singleton.1 hy]; exact hx, rfl, .inr ⟨w.heap.size, 0, 1, #[.int .i64 x], rfl, heap_alloc_last w _ rfl, Nat.le_refl _, by unfold maxLen; omega, by simp, fun j u h => by rw [Nat.zero_add]; simpa [ints] using h⟩⟩
theorem wpList_appP {ops : Array Oper} {rest : List Oper} {op : Oper} {a : Act} {w : World} {Q : Exit → Act → World → Prop} (hgd : op.guard = none) (s x : Operand) (t : TypeId) (hop : op.op = Op.call { callee := Callee.builtin Builtin.append, args := #[s, x], argTypes := #[t, t] }) (v x' : Value) (hs : a.eval s = v) (hx : a.eval x = x') (v' : Value) (w' : World)
    (hrun : (Builtin.append_ #[t, t] op.type #[v, x']).run Tryz.prog w = .ok v' w') (h : wpList Tryz.prog ops Q rest (a.put op.dst v') w') : wpList Tryz.prog ops Q (op :: rest) a w := by
  refine wpList_plain hgd fun K hK' => ?_
  unfold Oper.wp
  simp [execOp, hop, resolve, invoke, builtin, hs, hx, hrun, Result.andThen]
  exact hK' _ _ h
set_option maxRecDepth 100000 in
set_option maxHeartbeats 1000000 in
theorem past_new (k : Nat) (hk : k ≤ 100) (w : World) : Calls Tryz.prog 31 #[.int .i64 (k : Int)] w fun e w' => ∃ p vo xs, e = .returned (.pointer (some ⟨p, 0, none⟩)) ∧ Pst (fun j => w.heap.size ≤ j) w' p k 1 vo xs ∧ Below w.heap.size w w' := by
  go_enter Tryz.func31, Tryz.ntmps31
  go_wp2_with fail
  go_loopg [4] k (fun gk s4 wr => ∃ (i : Nat) (vo : Value) (xs : List Value), i + gk = k ∧ s4 = .int .i64 (i : Int) ∧ Pst (fun j => w.heap.size ≤ j) wr w.heap.size i 1 vo xs ∧ Below w.heap.size w wr)
  case atStart =>
    refine ⟨0, .slice none 0 0, [], by omega, rfl, ⟨heap_alloc_last w _ rfl, Sl.nil _ _ _, fun x hx => (by cases hx), Nat.le_refl _, fun g hg => (by cases hg), fun x hx => (by cases hx), List.Pairwise.nil⟩, (Below.refl _ w).alloc (Nat.le_refl _) _⟩
  case round =>
    obtain ⟨i, vo, xs, hi, rfl, hP, hb⟩ := hrel
    obtain ⟨ao, cap, rfl⟩ := hP.o.rd.nil_iff
    have c0 := cell_of_block hP.str 0
    have f0 := frozen_of_block hP.str 0
    by_cases hlt : i < k
    · have k1 : (i : Int) < (k : Int) := by omega
      obtain ⟨w1, hw1⟩ : ∃ w1, w1 = wr.alloc (.cells #[.int .i64 0] 3) := ⟨_, rfl⟩
      obtain ⟨x, hx⟩ : ∃ x : Value, x = .slice (some ⟨wr.heap.size, 0, none⟩) 1 1 := ⟨_, rfl⟩
      have hx1 : x.oneCell' = true := by rw [hx]; rfl
      obtain ⟨w2, hw2⟩ : ∃ w2, w2 = w1.alloc (.cells [x].toArray 87) := ⟨_, rfl⟩
      have u1 : Upd (fun _ => False) wr w1 := by rw [hw1]; exact (Upd.refl _ wr).alloc _
      have u2 : Upd (fun _ => False) w1 w2 := by rw [hw2]; exact (Upd.refl _ w1).alloc _
      have z1 : w1.heap.size = wr.heap.size + 1 := by rw [hw1]; simp
      have z2 : w2.heap.size = wr.heap.size + 2 := by rw [hw2]; simp [z1]
      have hP2 := hP.keep (u1.trans u2) (fun _ _ h => h)
      have hel : PsEl w1 1 x := by rw [hw1, hx]; exact one_int wr 0 (by decide) 1 (Nat.le_refl _)
      have hrd : Rd w2 1 (.slice (some ⟨w1.heap.size, 0, none⟩) 1 1) 1 [x] := by rw [hw2]; exact Rd.fresh w1 [x] 87 1 rfl (by unfold maxLen; omega)
      obtain ⟨ii, hii, hz0, hz1, hz2⟩ := info_parts infoSI
      obtain ⟨v', w3, hrun, hs3, hu3, hbf⟩ := run_append_sl 175 175 ii (.slice none 0 0) 24 Tryz.underlying175 hii hz0 hz1 hz2 rfl (by decide) hP2.o hrd (fun u hu => by rw [List.mem_singleton.1 hu]; exact hx1) (by unfold maxLen; omega) (by omega)
      obtain ⟨ao3, cap3, hv3⟩ := hs3.rd.nil_iff
      subst hv3
      have sp := lt_of_block hP.str
      have g3 := (hu3.block w.heap.size (lt_of_block hP2.str) (fun h => (hP.bo _ h).2 rfl)).trans hP2.str
      have k3 := cell_of_block g3 0
      have f3 := frozen_of_block g3 0
      rw [z1] at hrun
      rw [hw2, hw1, hx] at hrun
      have H := Lib.hid (And.intro hP (And.intro hb (And.intro hs3 (And.intro hu3 (And.intro hbf (And.intro hel (And.intro (u1.trans u2) (And.intro hP2 g3))))))))
      have HX := Lib.hid hx
      have H2 := Lib.hid u2
      clear hP hb hs3 hu3 hbf hel u1 u2 hP2 g3 hrd hii hz0 hz1 hz2 hw1 hw2 hx
      go_wp2_with (first
        | (refine wpList_appP rfl _ _ 175 rfl _ _ rfl rfl _ _ hrun ?_)
        | fail)
      go_roundg (gk - 1)
      case measure => omega
      case rel =>
        obtain ⟨hP, hb, hs3, hu3, hbf, hel, u12, hP2, g3⟩ := H.out
        have hus := upd_setCell w3 w.heap.size 0 (.slice ao3 (i + 1) cap3)
        have hvo : ∀ g, (Value.slice ao3 (i + 1) cap3).ownBlock = some g → ((Value.slice ao i cap).ownBlock = some g ∧ w.heap.size ≤ g ∧ g ≠ w.heap.size ∧ g < wr.heap.size) ∨ w2.heap.size ≤ g := fun g hg => by
          rcases hbf with e | ⟨g', e, hg'⟩
          · rw [e] at hg
            exact .inl ⟨hg, (hP.bo g hg).1, (hP.bo g hg).2, hP.o.lt hg⟩
          · rw [hg] at e; cases e; exact .inr hg'
        have hxo : ∀ y ∈ xs, ∀ g, y.ownBlock = some g → g < wr.heap.size := fun y hy g hg => by
          obtain ⟨L, -, -, -, hs⟩ := hP.els y hy; exact hs.lt hg
        have hxn : ∀ g, x.ownBlock = some g → g = wr.heap.size := fun g hg => by rw [HX.out] at hg; simp [Value.ownBlock] at hg; exact hg.symm
        refine ⟨i + 1, .slice ao3 (i + 1) cap3, xs ++ [x], by omega, by go_num, ⟨?_, hs3.keep hus (fun g hg e => ?_), fun y hy => ?_, Nat.le_refl _, fun g hg => ?_, fun y hy g hg => ?_, ?_⟩, ?_⟩
        · have := heap_setCell_same g3 0 (.slice ao3 (i + 1) cap3)
          simpa using this
        · rcases hvo g hg with h | h <;> omega
        · rcases List.mem_append.1 hy with hy | hy
          · exact ((hP2.els y hy).keep hu3 (fun g hg e => (hP.bx y hy g hg).2.2 e)).keep hus (fun g hg e => (hP.bx y hy g hg).2.1 e)
          · rw [List.mem_singleton.1 hy]
            refine ((hel.keep H2.out (fun _ _ h => h)).keep hu3 (fun g hg e => ?_)).keep hus (fun g hg e => ?_)
            · have := hxn g hg; have := hP.o.lt e; omega
            · have := hxn g hg; omega
        · rcases hvo g hg with h | h
          · exact ⟨h.2.1, h.2.2.1⟩
          · exact ⟨by show w.heap.size ≤ g; omega, by omega⟩
        · rcases List.mem_append.1 hy with hy | hy
          · refine ⟨(hP.bx y hy g hg).1, (hP.bx y hy g hg).2.1, fun e => ?_⟩
            rcases hvo g e with h | h
            · exact (hP.bx y hy g hg).2.2 h.1
            · have := hxo y hy g hg; omega
          · rw [List.mem_singleton.1 hy] at hg
            have h1 := hxn g hg
            refine ⟨by show w.heap.size ≤ g; omega, by omega, fun e => ?_⟩
            rcases hvo g e with h | h <;> omega
        · refine List.pairwise_append.2 ⟨hP.dis, List.pairwise_singleton _ _, fun y hy y' hy' g h1 h2 => ?_⟩
          rw [List.mem_singleton.1 hy'] at h2
          have := hxn g h2; have := hxo y hy g h1; omega
        · exact below_upd (below_upd (below_upd hb u12 (Nat.le_refl _) (fun k h => h.elim)) hu3 (Nat.le_refl _) (fun k h => (hP.bo k h).1)) hus (Nat.le_refl _) (fun k h => by rw [h]; exact Nat.le_refl _)
    · have k1 : ¬ ((i : Int) < (k : Int)) := by omega
      obtain rfl : i = k := by omega
      have H := Lib.hid (And.intro hP hb)
      clear hP hb c0 f0
      go_wp2
      go_ret
      exact ⟨w.heap.size, rfl, ⟨_, xs, H.out.1⟩, H.out.2⟩
theorem Pst.look {B : Nat → Prop} {w : World} {p N M : Nat} {vo : Value} {xs : List Value} (h : Pst B w p N M vo xs) {i : Nat} (hi : i < N) :
    ∃ g off cap b o m c x, vo = .slice (some ⟨g, off, none⟩) N cap ∧ w.cell? ⟨g, off + i, none⟩ = some (.slice (some ⟨b, o, none⟩) (m + 1) c) ∧ w.cell? ⟨b, o + m, none⟩ = some (.int .i64 x) ∧ (m + 1 ≤ M ∧ 0 ≤ x ∧ x ≤ 255) ∧ xs[i]? = some (.slice (some ⟨b, o, none⟩) (m + 1) c) := by
  obtain ⟨g, off, cap, cur, rfl, hg, -, hc⟩ := h.o.at (by omega)
  have hx : i < xs.length := by rw [h.len]; exact hi
  obtain ⟨L, h1, h2, hb0, hs⟩ := h.els _ (List.getElem_mem hx)
  obtain ⟨b, o, c, cur2, e2, hb, -, hc2⟩ := hs.at (by omega)
  obtain ⟨m, hm⟩ : ∃ m, L.length = m + 1 := ⟨L.length - 1, by omega⟩
  have hx2 : xs[i]? = some (.slice (some ⟨b, o, none⟩) (m + 1) c) := by rw [List.getElem?_eq_getElem hx, e2, hm]
  refine ⟨g, off, cap, b, o, m, c, L[m]'(by omega), rfl, ?_, ?_, ⟨by omega, hb0 _ (List.getElem_mem _)⟩, hx2⟩
  · rw [cell_of_block hg]
    exact hc i _ hx2
  · rw [cell_of_block hb]
    refine hc2 m _ ?_
    simp [ints, List.getElem?_eq_getElem (show m < L.length by omega)]
set_option maxRecDepth 100000 in
set_option maxHeartbeats 1000000 in
theorem past_now {B : Nat → Prop} {w : World} {p N M : Nat} {vo : Value} {xs : List Value} (h : Pst B w p N M vo xs) (hM : M ≤ 100000) {i : Nat} (hi : i < N) : Calls Tryz.prog 88 #[.pointer (some ⟨p, 0, none⟩), .int .i64 (i : Int)] w fun e w' => ∃ x : Int, (0 ≤ x ∧ x ≤ 255) ∧ e = .returned (.int .i64 x) ∧ Upd (fun _ => False) w w' := by
  obtain ⟨g, off, cap, b, o, m, c, x, rfl, c1, c2, ⟨hm, hx⟩, -⟩ := h.look hi
  have c0 := cell_of_block h.str 0
  have hNm := h.o.le
  simp only [List.getElem?_toArray, List.getElem?_cons_zero] at c0
  have k1 : (i : Int) < (N : Int) := by omega
  have i0 : (0 : Int) ≤ (i : Int) := by omega
  have hw : IntKind.i64.wrap (m : Int) = (m : Int) := IntWalk.i64_in _ (by omega)
  clear h
  go_enter Tryz.func88, Tryz.ntmps88
  go_wp2_with fail
  refine wp_region_held_drew (S := fun W => W.cell? ⟨p, 0, none⟩ = some (.slice (some ⟨g, off, none⟩) N cap) ∧ W.cell? ⟨g, off + i, none⟩ = some (.slice (some ⟨b, o, none⟩) (m + 1) c) ∧ W.cell? ⟨b, o + m, none⟩ = some (.int .i64 x)) (by kernel_rfl) (⟨by rw [World.cell?_drew]; exact c0, by rw [World.cell?_drew]; exact c1, by rw [World.cell?_drew]; exact c2⟩) (fun hHeld => ?_)
  refine Wl.i [0, 1, 2, 3, 4, 5, 6, 7, 8, 9, 10, 11, 12, 13, 14] ?_; iterate 15 refine Wl.t hHeld ?_
  refine Wl.o ?_
  refine wpAnyH_take (i := 15) (v := .int .i64 (m : Int)) rfl (by kernel_rfl) (by kernel_rfl) (by kernel_rfl) (fun _ _ _ h => h) (Or.inl ⟨by rfl, ?_⟩) hHeld ?_
  · intro W hSw
    go_simp
  simp only [List.getElem_toArray, List.getElem_cons_succ, List.getElem_cons_zero, Act.put, List.setIfInBounds_toArray, List.set_cons_zero, List.set_cons_succ]
  have k2 : (m : Int) < (m : Int) + 1 := by omega
  have m0 : (0 : Int) ≤ (m : Int) := by omega
  refine Wl.i [16, 17] ?_; iterate 2 refine Wl.t hHeld ?_
  refine Wl.o ?_
  refine Wl.r 18 (fun K hK => ?_)
  go_simp
  refine hK.out _ _ hHeld (fun _ => ?_)
  clear hK K
  refine Wl.d ?_
  go_wp2
  go_ret
  exact ⟨x, hx, rfl, (Upd.refl _ w).drew⟩
theorem Pst.apart {B : Nat → Prop} {w : World} {p N M : Nat} {vo : Value} {xs : List Value} (h : Pst B w p N M vo xs) {i j : Nat} (hi : i < xs.length) (hj : j < xs.length) (hne : i ≠ j) : Dis xs[i] xs[j] := by
  have hd := List.pairwise_iff_getElem.1 h.dis
  rcases Nat.lt_or_gt_of_ne hne with hlt | hlt
  · exact hd i j hi hj hlt
  · exact (hd j i hj hi hlt).symm
theorem Pst.put {B : Nat → Prop} {w w3 : World} {p N M M' g off cap i : Nat} {xs : List Value} {v' : Value} (h : Pst B w p N M (.slice (some ⟨g, off, none⟩) N cap) xs) (hi : i < xs.length) (hMM : M ≤ M') (hu : Upd (ownS xs[i]) w w3) (hel : PsEl w3 M' v') (hbf : blockFrom w xs[i] v') :
    Pst (fun j => B j ∨ w.heap.size ≤ j) (w3.setCell ⟨g, off + i, none⟩ v') p N M' (.slice (some ⟨g, off, none⟩) N cap) (xs.set i v') ∧ Upd (fun j => B j ∨ w.heap.size ≤ j) w (w3.setCell ⟨g, off + i, none⟩ v') := by
  obtain ⟨hl, ⟨e, -⟩ | ⟨g', off', cap', cur, e, hg, hnc, hcm, hs, hc⟩⟩ := h.o
  · cases e
  cases e
  have hiN : i < N := by have := h.len; omega
  have hxi := List.getElem_mem hi
  have hus := upd_setCell w3 g (off + i) v'
  have hgo : B g ∧ g ≠ p := h.bo g rfl
  have hgx : ∀ j (hj : j < xs.length), ∀ b, xs[j].ownBlock = some b → B b ∧ b ≠ p ∧ b ≠ g ∧ b < w.heap.size := fun j hj b hb => by
    obtain ⟨h1, h2, h3⟩ := h.bx _ (List.getElem_mem hj) b hb
    obtain ⟨L, -, -, -, hs⟩ := h.els _ (List.getElem_mem hj)
    exact ⟨h1, h2, fun e => h3 (by rw [e]; rfl), hs.lt hb⟩
  have hgl := lt_of_block hg
  have hpl := lt_of_block h.str
  have hv' : ∀ b, v'.ownBlock = some b → (xs[i].ownBlock = some b ∧ B b ∧ b ≠ p ∧ b ≠ g) ∨ w.heap.size ≤ b := fun b hb => by
    rcases hbf with e | ⟨g', e, hg'⟩
    · rw [e] at hb
      obtain ⟨h1, h2, h3, -⟩ := hgx i hi b hb
      exact .inl ⟨hb, h1, h2, h3⟩
    · rw [hb] at e; cases e; exact .inr hg'
  have hg3 := (hu.block g hgl (fun e => (hgx i hi g e).2.2.1 rfl)).trans hg
  have h4 := heap_setCell_same hg3 (off + i) v'
  have hset : ∀ j (hj : j < (xs.set i v').length), (j = i ∧ (xs.set i v')[j] = v') ∨ (j ≠ i ∧ ∃ hj' : j < xs.length, (xs.set i v')[j] = xs[j]) := fun j hj => by
    have hj' : j < xs.length := by simpa using hj
    by_cases hji : j = i
    · subst hji; exact .inl ⟨rfl, by simp⟩
    · exact .inr ⟨hji, hj', by rw [List.getElem_set, if_neg (fun e => hji e.symm)]⟩
  refine ⟨⟨?_, ⟨by simpa using hl, .inr ⟨g, off, cap, cur.setIfInBounds (off + i) v', rfl, h4, hnc, hcm, by simpa using hs, fun j u hj => ?_⟩⟩, fun y hy => ?_, .inl h.bp, fun b hb => ?_, fun y hy b hb => ?_, ?_⟩, ?_⟩
  · exact (hus.block p (Nat.lt_of_lt_of_le hpl hu.size) (fun e => hgo.2 e.symm)).trans ((hu.block p hpl (fun e => (hgx i hi p e).2.1 rfl)).trans h.str)
  · rw [List.getElem?_set] at hj
    by_cases hji : i = j
    · subst hji
      rw [if_pos rfl, if_pos hi] at hj
      rw [Array.getElem?_setIfInBounds_self, if_pos (by omega)]
      exact hj
    · rw [if_neg hji] at hj
      rw [Array.getElem?_setIfInBounds_ne (by omega)]
      exact hc j u hj
  · obtain ⟨j, hj, rfl⟩ := List.getElem_of_mem hy
    rcases hset j hj with ⟨hji, e⟩ | ⟨hji, hj', e⟩
    · rw [e]
      refine hel.keep hus (fun b hb e => ?_)
      subst e
      rcases hv' b hb with h1 | h1
      · exact h1.2.2.2 rfl
      · omega
    · rw [e]
      obtain ⟨L, l1, l2, l0, hsl⟩ := h.els _ (List.getElem_mem hj')
      have hk : PsEl w M' xs[j] := ⟨L, l1, Nat.le_trans l2 hMM, l0, hsl⟩
      exact (hk.keep hu (fun b hb e => h.apart hj' hi hji b hb e)).keep hus (fun b hb e => (hgx j hj' b hb).2.2.1 e)
  · cases hb
    exact ⟨.inl hgo.1, hgo.2⟩
  · obtain ⟨j, hj, rfl⟩ := List.getElem_of_mem hy
    rcases hset j hj with ⟨hji, e⟩ | ⟨hji, hj', e⟩
    · rw [e] at hb
      rcases hv' b hb with h1 | h1
      · exact ⟨.inl h1.2.1, h1.2.2.1, fun e => h1.2.2.2 (by cases e; rfl)⟩
      · exact ⟨.inr h1, by omega, fun e => by have e2 : some g = some b := e; cases e2; omega⟩
    · rw [e] at hb
      obtain ⟨h1, h2, h3, -⟩ := hgx j hj' b hb
      exact ⟨.inl h1, h2, fun e => h3 (by cases e; rfl)⟩
  · refine List.pairwise_iff_getElem.2 fun a c ha hc hac b h1 h2 => ?_
    rcases hset a ha with ⟨ha1, e1⟩ | ⟨ha1, ha', e1⟩ <;> rcases hset c hc with ⟨hc1, e2⟩ | ⟨hc1, hc', e2⟩
    · omega
    · rw [e1] at h1
      rw [e2] at h2
      rcases hv' b h1 with h3 | h3
      · exact h.apart hi hc' (fun e => hc1 e.symm) b h3.1 h2
      · have := (hgx c hc' b h2).2.2.2; omega
    · rw [e1] at h1
      rw [e2] at h2
      rcases hv' b h2 with h3 | h3
      · exact h.apart hi ha' (fun e => ha1 e.symm) b h3.1 h1
      · have := (hgx a ha' b h1).2.2.2; omega
    · rw [e1] at h1
      rw [e2] at h2
      exact h.apart ha' hc' (by omega) b h1 h2
  · refine (hu.mono (fun j hj e => .inl (hgx i hi j e).1)).trans (hus.mono (fun j hj e => ?_))
    subst e
    exact .inl hgo.1
end Go.Proofs.YtfhfbpmlnjdfoaaGreatDoor
