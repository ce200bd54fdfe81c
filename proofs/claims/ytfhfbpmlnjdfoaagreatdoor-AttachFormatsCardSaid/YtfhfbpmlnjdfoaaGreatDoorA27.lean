/- Pages: Read of a checkpoint, where nothing is planned. The journal: Scan whole: its records, sorted. attach.Apply: its sort. -/
import Derived.Test.YtfhfbpmlnjdfoaaGreatDoorA14
import Derived.Test.YtfhfbpmlnjdfoaaGreatDoorA13
import Derived.Test.YtfhfbpmlnjdfoaaGreatDoorA03
import Derived.Test.YtfhfbpmlnjdfoaaGreatDoorA16
import Derived.Test.YtfhfbpmlnjdfoaaGreatDoorA10
import Derived.Test.YtfhfbpmlnjdfoaaGreatDoorA26
import Derived.Test.YtfhfbpmlnjdfoaaGreatDoorA15
import Derived.Test.YtfhfbpmlnjdfoaaGreatDoorAS
namespace Go.Proofs.YtfhfbpmlnjdfoaaGreatDoor
open Go Go.RowKit Go.Shelf
attribute [local go_sem] Oper.semAt_some
section
variable {F : Fence} {n : Nat} {P : Program} {ops : Array Oper} {rest : List Oper} {op : Oper} {a : Act} {w : World} {Q : Exit → Act → World → Prop}
theorem wpListIn_row (hgd : op.guard = none) (ts te : TypeId) (p : Operand) (ho : op.op = .buildSlice ts 1 #[(0, p)]) (cs : List Value) (hp : a.eval p = .agg cs.toArray)
    (hrun : (Instr.buildSlice ts 1 #[(0, .agg cs.toArray)]).run P w = .ok (.slice (some ⟨w.heap.size, 0, none⟩) 1 1) (w.alloc (.cells cs.toArray te)))
    (h : wpListIn F n P ops Q rest (a.put op.dst (.slice (some ⟨w.heap.size, 0, none⟩) 1 1)) (w.alloc (.cells cs.toArray te))) : wpListIn F n P ops Q (op :: rest) a w := by
  refine wpListIn_plain hgd fun K hK' => ?_
  unfold Oper.wpIn
  refine ⟨by simp [Oper.about, ho], ?_⟩
  rw [Oper.semAt_plain F _ _ (by rw [ho]; intro c hc'; cases hc')]
  simp only [execOp, ho, List.map_toArray, List.map_cons, List.map_nil, hp, Sem.run_bind, hrun, Result.andThen_ok]
  exact hK' _ _ h
theorem wpListIn_app (hgd : op.guard = none) (s x : Operand) (t : TypeId) (hop : op.op = Op.call { callee := Callee.builtin Builtin.append, args := #[s, x], argTypes := #[t, t] }) (v x' : Value) (hs : a.eval s = v) (hx : a.eval x = x') (v' : Value) (w' : World)
    (hrun : (Builtin.append_ #[t, t] op.type #[v, x']).run P w = .ok v' w') (h : wpListIn F n P ops Q rest (a.put op.dst v') w') : wpListIn F n P ops Q (op :: rest) a w := by
  refine wpListIn_plain hgd fun K hK' => ?_
  unfold Oper.wpIn
  refine ⟨?_, ?_⟩
  · simp [Oper.about, hop, resolve, Target.leads, Sem.run_pure]
  · rw [Oper.semAt_plain F _ _ (by rw [hop]; intro c hc'; cases hc')]
    simp [execOp, hop, resolve, invoke, builtin, hs, hx, hrun, Result.andThen]
    exact hK' _ _ h
end
theorem makeBl (m : Nat) (hm : m ≤ 4096) : ∃ Z : Array Value, Z.size = m * 64 ∧ ∀ w : World, (Instr.makeSlice 41 (.int .i64 0) (.int .i64 (m : Int))).run Tryz.prog w = .ok (.slice (some ⟨w.heap.size, 0, none⟩) 0 m) (w.alloc (.cells Z 54)) := by
  obtain ⟨i0, z, hi, hz, hs, hb2, hb3⟩ := infoBl_parts
  refine ⟨madeCells z.cells (m * 64), by simp [size_madeCells], fun w => ?_⟩
  have := run_make (P := Tryz.prog) w 41 54 i0 z Tryz.underlying41 hi hz .i64 .i64 0 m (by omega) (by omega) (by rw [hb3]; omega) (by omega)
  rw [this]
  simp only [Int.toNat_natCast, hb2]
  rfl
def secsOf (F : List Bk) (O : List (Nat × Bk)) (base m : Nat) : List Bk := (List.range m).map fun i => curB F O (base + i)
theorem secsOf_len (F : List Bk) (O : List (Nat × Bk)) (base m : Nat) : (secsOf F O base m).length = m := by simp [secsOf]
def PrOut (S : Nat → Prop) (w : World) (b : Nat) (F : List Bk) (O : List (Nat × Bk)) (l : List Bk) (e : Ending) (w' : World) : Prop :=
  ∃ v, e = .returned (.tuple #[.int .i64 ((if readOk l then readSeq l else 0 : Nat) : Int), v, .int .i64 (if readOk l then 0 else 14)]) ∧ Sl w' 37 4 v (if readOk l then readEs l else []).length ((if readOk l then readEs l else []).flatMap entC) ∧ From w.heap.size v ∧ Dv (fun j => S j ∧ ∀ g, v.ownBlock = some g → g ≠ j) w' b F O [] ∧ Upd S w w'
def PrI (T D : Nat → Prop) (w5 : World) (b lb rb : Nat) (F : List Bk) (O : List (Nat × Bk)) (base : Nat) {m : Nat} (pre : List { i : Nat // i < m }) (W : World) : Prop :=
  Upd T w5 W ∧ ∃ v S1, W.heap[lb]? = some (.cells #[v] 41 (0, 0)) ∧ Sl W 54 64 v pre.length (rowC (pre.map fun x => curB F O (base + x.1))) ∧ (∀ g, v.ownBlock = some g → g = rb ∨ w5.heap.size ≤ g) ∧
    Dv S1 W b F O [] ∧ (∀ j, S1 j → D j) ∧ (∀ j, S1 j → ∃ cs t z, W.heap[j]? = some (.cells cs t z)) ∧ ∀ g, v.ownBlock = some g → ¬ S1 g
set_option maxRecDepth 100000 in
set_option maxHeartbeats 4000000 in
theorem pread {S : Nat → Prop} {w : World} {b : Nat} {F : List Bk} {O : List (Nat × Bk)} (hd : Dv S w b F O []) (hn : ∀ j, w.heap.size ≤ j → S j) (base m : Nat) (hm1 : 1 ≤ m) (hbm : base + m ≤ F.length) (hN : Nib w) (hgS : ¬ S 0) :
    Calls Tryz.prog 35 #[.pointer (some ⟨b, 0, none⟩), .int .i64 (base : Int), .int .i64 (m : Int)] w (PrOut S w b F O (secsOf F O base m)) := by
  have hfl := hd.good.fl
  obtain ⟨Z, hZ, hmk⟩ := makeBl m (by omega)
  obtain ⟨w1, hw1⟩ : ∃ w1, w1 = (((w.alloc (.cells #[.pointer (some ⟨b, 0, none⟩)] 46)).alloc (.cells #[.int .i64 0] 3)).alloc (.cells #[.slice none 0 0] 22)).alloc (.cells #[.int .i64 0] 28) := ⟨_, rfl⟩
  have hu1 : Upd (fun _ => False) w w1 := by rw [hw1]; exact ((((Upd.refl _ w).alloc _).alloc _).alloc _).alloc _
  obtain ⟨e0, e1, e2, e3, z1, -⟩ := four_new w (.cells #[.pointer (some ⟨b, 0, none⟩)] 46) (.cells #[.int .i64 0] 3) (.cells #[.slice none 0 0] 22) (.cells #[.int .i64 0] 28)
  rw [← hw1] at e0 e1 e2 e3 z1
  obtain ⟨w2, hw2⟩ : ∃ w2, w2 = (w1.alloc (.cells Z 54)).alloc (.cells #[.slice (some ⟨w1.heap.size, 0, none⟩) 0 m] 41) := ⟨_, rfl⟩
  have hu2 : Upd (fun _ => False) w1 w2 := by rw [hw2]; exact ((Upd.refl _ w1).alloc _).alloc _
  have z2 : w2.heap.size = w1.heap.size + 2 := by rw [hw2]; simp
  have e4 : w2.heap[w1.heap.size]? = some (.cells Z 54 (0, 0)) := by rw [hw2]; exact (Below.heap_alloc _ _ _ (by simp)).trans (heap_alloc_last w1 _ rfl)
  have e5 : w2.heap[w1.heap.size + 1]? = some (.cells #[.slice (some ⟨w1.heap.size, 0, none⟩) 0 m] 41 (0, 0)) := by rw [hw2]; exact heap_alloc_last _ _ (by simp)
  have hd1 := hd.new hu1
  have HW1 := Lib.hid hw1
  have HW2 := Lib.hid hw2
  have H := Lib.hid (And.intro hd (And.intro hn (And.intro hN (And.intro hgS (And.intro hu1 (And.intro hu2 (And.intro z1 (And.intro z2 (And.intro e4 (And.intro e5 (And.intro hZ (And.intro e0 (And.intro e1 (And.intro e2 e3))))))))))))))
  clear hd hn hN hgS hu1 hu2 e4 e5 hw1 hw2 e1 e2 e3 z2 e0
  refine (callsIn_wide (n := 3)).1 ?_
  refine callsIn_of_wp_marks Tryz.func35 rfl trivial ?_ rfl
  simp only [Tryz.ntmps35, List.size_toArray, List.length_cons, List.length_nil, Nat.reduceAdd, Nat.reduceSub, Array.replicate_succ, Array.replicate_zero, List.push_toArray, List.append_toArray, List.nil_append, List.cons_append]
  refine wpIn_wide.2 ?_
  go_wp2_with fail
  rw [← HW1.out]
  refine (there1 hd1 base m hm1 hbm).mono ?_
  rintro e w' ⟨rfl, rfl⟩
  go_wp2_with fail
  have hmn := hmk
  have hz1 := H.out.2.2.2.2.2.2.1
  obtain ⟨A, hA⟩ : ∃ A, A = w.heap.size := ⟨_, rfl⟩
  have HA := Lib.hid hA
  have hW2' := HW2.out
  rw [hz1] at hW2'
  rw [← hW2', ← hA]
  refine (sectors_any (base : Int) (m : Int) w2).mono ?_
  rintro e w5 ⟨rfl, hw5⟩
  obtain ⟨hd, hn, hN, hgS, hu1, hu2, z1', z2, e4, e5, hZ', e0, e1, e2, e3⟩ := H.out
  have hu5 : Upd (fun _ => False) w2 w5 := by rw [hw5]; exact ((Upd.refl _ w2).alloc _).alloc _
  have hz5 : w5.heap.size = A + 8 := by rw [hw5]; simp; omega
  have hz2 : w2.heap.size = A + 6 := by omega
  have hcb : w5.cell? ⟨A + 6, 0, none⟩ = some (.int .i64 (base : Int)) := by
    rw [hw5, ← hz2]; exact (cell_of_block ((Below.heap_alloc _ _ _ (by simp)).trans (heap_alloc_last w2 _ rfl)) 0)
  have hcm : w5.cell? ⟨A + 7, 0, none⟩ = some (.int .i64 (m : Int)) := by
    rw [hw5, show A + 7 = w2.heap.size + 1 by omega]; exact (cell_of_block (heap_alloc_last _ _ (by simp)) 0)
  have hU : Upd (fun _ => False) w w5 := (hu1.trans hu2).trans hu5
  obtain ⟨T, hT⟩ : ∃ T : Nat → Prop, T = fun j => (S j ∧ j < A) ∨ (A + 4 ≤ j ∧ j < A + 6) ∨ A + 8 ≤ j := ⟨_, rfl⟩
  obtain ⟨D, hD⟩ : ∃ D : Nat → Prop, D = fun j => (S j ∧ j < A) ∨ A + 8 ≤ j := ⟨_, rfl⟩
  have hDT : ∀ j, D j → T j := fun j h => by rw [hD] at h; rw [hT]; exact h.imp id .inr
  have hD5 : ∀ j, A ≤ j → j < A + 8 → ¬ D j := fun j h1 h2 h => by rw [hD] at h; rcases h with h | h <;> omega
  have hDn : ∀ j, A + 8 ≤ j → D j := fun j h => by rw [hD]; exact .inr h
  have hTn : ∀ j, A + 8 ≤ j → T j := fun j hj => by rw [hT]; exact .inr (.inr hj)
  have hTo : ∀ j, A ≤ j → j < A + 4 ∨ (A + 6 ≤ j ∧ j < A + 8) → ¬ T j := fun j h1 h2 h => by rw [hT] at h; rcases h with h | h | h <;> omega
  have hT4 : T (A + 4) := by rw [hT]; exact .inr (.inl (by omega))
  have hT5 : T (A + 5) := by rw [hT]; exact .inr (.inl (by omega))
  have hd5 : Dv D w5 b F O [] := ((hd.shrink (T := fun j => S j ∧ j < A) (fun j h1 h2 => ⟨h1, by omega⟩)).new hU).wide (fun j h => by rw [hD]; exact .inl h)
  obtain ⟨S1, k1, k2, k3⟩ := hd5.exact
  rw [z1'] at e4 e5
  rw [← hA] at e0 e1 e2 e3 e4 e5
  have g0 := (hu2.trans hu5).blockv e0
  have g1 := (hu2.trans hu5).blockv e1
  have g2 := (hu2.trans hu5).blockv e2
  have g3 := (hu2.trans hu5).blockv e3
  have g4 := hu5.blockv e4
  have g5 := hu5.blockv e5
  have hsl0 : Sl w5 54 64 (.slice (some ⟨A + 4, 0, none⟩) 0 m) 0 [] := ⟨rfl, .inr ⟨A + 4, 0, m, Z, rfl, g4, by omega, by unfold maxLen; omega, by rw [hZ]; omega, fun j u h => by cases h⟩⟩
  have H5 := Lib.hid (And.intro hd5 (And.intro hTn (And.intro hTo (And.intro g0 (And.intro g1 (And.intro g2 (And.intro g3 (And.intro hT (And.intro hU (And.intro hT4 (And.intro hT5 (And.intro hD (And.intro hDT (And.intro hD5 hDn))))))))))))))
  have HI : Hid (PrI T D w5 b (A + 5) (A + 4) F O base ([] : List { i : Nat // i < m }) w5) := ⟨Upd.refl _ _, _, S1, g5, hsl0, fun g hg => by cases hg; exact .inl rfl, k1, k2, k3, fun g hg hs => by cases hg; exact hD5 (A + 4) (by omega) (by omega) (k2 _ hs)⟩
  rw [hz2]
  clear hd hn hN hgS hu1 hu2 e4 e5 hZ' e0 e1 e2 e3 hu5 g0 g1 g2 g3 g4 g5 hsl0 hd5 hU hT hD k1 k2 k3 hW2' hw5 z2 hz2 hmk hmn hA z1 z1' hz1
  go_wp2_with fail
  refine (wpIn_wide (n := 3)).1 ?_
  refine' wpIn_rangeFunc_ownF rfl (by omega) (gf := 171) (lb := #[.pointer (some ⟨A + 7, 0, none⟩), .pointer (some ⟨A + 6, 0, none⟩)]) rfl trivial (enters_of Tryz.func171 (by kernel_rfl) rfl)
    (sec_stops _ (by omega) T (A + 7) (A + 6) base m w5 (by omega) (by omega) (by omega) (by omega) (hTo _ (by omega) (.inr (by omega))) (hTo _ (by omega) (.inr (by omega))) hcm hcb) supd_t (fun W l o o' hl => supd_b (M := A + 8) hTn W l o o' (by omega)) (Below.refl _ _) (fun _ => rfl)
    (PrI T D w5 b (A + 5) (A + 4) F O base)
    (fun _ _ _ => False)
    (fun pre X Y row hs hg hr => by
      obtain ⟨hu, v, S1, hv, hs, hf, hd, k2, k3, k4⟩ := hs
      have hkc : ∀ {j : Nat} {cs : Array Value} {t : TypeId} {z : Nat × Nat}, X.heap[j]? = some (Obj.cells cs t z) → Y.heap[j]? = some (Obj.cells cs t z) := fun h => (grownBy_keeps_cells hg (fun r e => (hr r e).2) h rfl).trans h
      exact ⟨upd_grown hu hg (fun r e => hTn r (by have := (hr r e).1; omega)), v, S1, hkc hv,
        hs.keep (Upd.of_grown (S := fun j => row = some j) hg (fun g e _ => e)) (fun g hgv e => by
          obtain ⟨o, ho, hc⟩ := (hr g e).2
          obtain ⟨cs, t, z, hcs⟩ := hs.cellsAt hgv
          rw [hcs] at ho; cases ho; cases hc), hf, hd.grown hg (fun r e => (hr r e).2), k2, fun j hj => by obtain ⟨cs, t, z, h⟩ := k3 j hj; exact ⟨cs, t, z, hkc h⟩, k4⟩)
    (fun _ _ _ _ _ hs _ _ => hs)
    HI.out
    _ ?assign ?body ?done ?stop
  case assign =>
    intro l x W K hK
    gi_wp2
    exact hK
  case stop =>
    rintro D c pre W _ _ h _
    exact h.elim
  case body =>
    rintro l pre ⟨i, hi⟩ W ⟨hu, v, S1, hcell, hsl, hf, h0, hs0, hcs0, hv1⟩ hlt
    obtain ⟨-, -, -, g0, -, -, -, hT, -, hT4, hT5, hD, hDT, hD5, hDn⟩ := H5.out
    have hus := hu.size
    have hG0 := (hu.block _ (lt_of_block g0) (hTo _ (Nat.le_refl _) (.inl (by omega)))).trans g0
    have c0 : W.cell? ⟨A, 0, none⟩ = some (.pointer (some ⟨b, 0, none⟩)) := cell_of_block hG0 0
    have hrd := dreadR (S := fun j => S1 j ∨ W.heap.size ≤ j) (h0.wide (fun _ h => .inl h)) (fun _ h => .inr h) (base + i) (by omega)
    have HR := Lib.hid hrd
    have hl0 := lt_of_block hG0
    have hl5 := lt_of_block hcell
    have HB := Lib.hid (And.intro hu (And.intro hcell (And.intro hsl (And.intro hf (And.intro h0 (And.intro hs0 (And.intro hcs0 (And.intro hv1 (And.intro hus (And.intro hT5 (And.intro hDT (And.intro hD5 (And.intro hDn hT4)))))))))))))
    clear g0 hT hT4 hDn hG0 hrd hu hcell hsl hf h0 hs0 hcs0 hv1 hT5 hD hDT hD5 hus
    gi_wp2_with fail
    refine ⟨trivial, ?_⟩
    rw [show ((base : Int) + (i : Int)) = ((base + i : Nat) : Int) by simp]
    refine (CallsIn.inRound l (callsIn_wide.2 HR.out)).mono ?_
    rintro e W2 ⟨y, cd, rfl, hy, hcd, hyl, hd2, hu2⟩
    have hcd0 : cd = 0 := by rw [hcd]; rfl
    have hyc : y = curB F O (base + i) := by rw [hy]; rfl
    subst hcd0
    obtain ⟨hu, hcell, hsl, hf, h0, hs0, hcs0, hv1, hus, hT5, hDT, hD5, hDn, hT4⟩ := HB.out
    obtain ⟨S2, d2, s2, k2⟩ := hd2.exact
    have hs2 := hu2.size
    have n5 : ¬ (S1 (A + 5) ∨ W.heap.size ≤ A + 5) := fun h => by
      rcases h with h | h
      · exact hD5 _ (by omega) (by omega) (hs0 _ h)
      · omega
    have hcell2 := (hu2.block (A + 5) hl5 n5).trans hcell
    have hsl2 := hsl.keep hu2 (fun g hg h => by
      rcases h with h | h
      · exact hv1 g hg h
      · have := hsl.lt hg; omega)
    obtain ⟨W4, hW4⟩ : ∃ W4, W4 = (W2.alloc (.cells (bkC y).toArray 54)).alloc (.cells (bkC y).toArray 54) := ⟨_, rfl⟩
    have hu4 : Upd (fun _ => False) W2 W4 := by rw [hW4]; exact ((Upd.refl _ W2).alloc _).alloc _
    have hz4 : W4.heap.size = W2.heap.size + 2 := by rw [hW4]; simp
    have g4 : W4.heap[W2.heap.size + 1]? = some (.cells (bkC y).toArray 54 (0, 0)) := by rw [hW4]; exact heap_alloc_last _ _ (by simp)
    have hcell4 := hu4.blockv hcell2
    have hsl4 := hsl2.keep hu4 (fun _ _ h => h)
    obtain ⟨ib, zb, hib, hzb, hzs, hisz, hiby⟩ := infoBl_parts
    have hpl : pre.length ≤ 4096 := by omega
    obtain ⟨v', w', hrun, hs', hu', hbf⟩ := run_append_sl (P := Tryz.prog) (m := 1) (x' := .slice (some ⟨W2.heap.size + 1, 0, none⟩) 1 1) (news := bkC y) 41 41 ib zb 64 Tryz.underlying41 hib hzb hisz hiby hzs (by decide) hsl4
      ⟨by rw [bkC_len, hyl], by decide, _, _, rfl, (fun h => by cases h), fun b hb j u hj => by cases hb; rw [Addr.add_lit, cell_of_block g4]; simpa using hj⟩ (bkC_one y) (by simp only [maxLen]; omega) (by omega)
    obtain ⟨ao', cc', hv'⟩ := hs'.rd.nil_iff
    subst hv'
    have hv5 : ∀ g, v.ownBlock = some g → g ≠ A + 5 := fun g hg e => by
      have := hf g hg; omega
    have hc' := (hu'.block (A + 5) (lt_of_block hcell4) (fun h => hv5 _ h rfl)).trans hcell4
    obtain ⟨w7, hw7⟩ : ∃ w7, w7 = w'.setCell ⟨A + 5, 0, none⟩ (.slice ao' (pre.length + 1) cc') := ⟨_, rfl⟩
    have hus7 : Upd (fun j => j = A + 5) w' w7 := by rw [hw7]; exact upd_setCell _ _ _ _
    have hc7 : w7.heap[A + 5]? = some (.cells #[.slice ao' (pre.length + 1) cc'] 41 (0, 0)) := by rw [hw7]; exact heap_setCell_same hc' 0 _
    have cc2 := cell_of_block hcell2 0
    have cc4 := cell_of_block hc' 0
    have ff4 := frozen_of_block hc' 0
    have hlt2 := lt_of_block hcell2
    have hyc64 : (bkC y).length = 64 := by rw [bkC_len, hyl]
    have hrow := run_row_bl (.agg (bkC y).toArray) (by simpa [Value.cells] using hyc64) (W2.alloc (.cells (bkC y).toArray 54))
    have hy64 := sizeBk y hyl
    have rA : (W2.alloc (.cells (bkC y).toArray 54)).rangeAt W2.heap.size 0 (bkC y) := range_of_block (heap_alloc_last W2 _ rfl)
    have hbf4 : ∀ g, (Value.slice ao' (pre.length + 1) cc').ownBlock = some g → (v.ownBlock = some g ∨ W4.heap.size ≤ g) := fun g hg => by
      rcases hbf with e | ⟨g2, e, hge⟩
      · rw [e] at hg; exact .inl hg
      · rw [e] at hg; cases hg; exact .inr hge
    have hTW : Upd T W w7 := by
      refine (((hu2.mono (fun j _ h => ?_)).trans (hu4.mono (fun _ _ h => h.elim))).trans (hu'.mono (fun j _ h => ?_))).trans (hus7.mono (fun j _ h => h ▸ hT5))
      · rcases h with h | h
        · exact hDT _ (hs0 _ h)
        · exact hTn _ (by omega)
      · rcases hf j h with rfl | h
        · exact hT4
        · exact hTn _ (by omega)
    have hS2v : ∀ j, S2 j → v.ownBlock ≠ some j := fun j hj e => by
      rcases s2 j hj with h | h
      · exact hv1 j e h
      · have := hsl.lt e; omega
    have hS25 : ∀ j, S2 j → j ≠ A + 5 := fun j hj e => by
      rcases s2 j hj with h | h
      · exact hD5 _ (by omega) (by omega) (hs0 _ (e ▸ h))
      · omega
    have hPOST : KeepsOthers W w7 ∧ Upd T W w7 ∧ PrI T D w5 b (A + 5) (A + 4) F O base (pre ++ [(⟨i, hi⟩ : { i : Nat // i < m })]) w7 := by
      refine ⟨?_, hTW, hu.trans hTW, _, S2, hc7, ?_, fun g hg => ?_, ?_, fun j hj => ?_, fun j hj => ?_, fun g hg hs => ?_⟩
      · have e1 : KeepsOthers W W2 := keepsOthers_cells hu2 (fun j hj hl => by
          rcases hj with hj | hj
          · exact hcs0 j hj
          · omega)
        have e2 : KeepsOthers W2 W4 := ⟨by omega, fun k o hk ho => hu4.blockv hk⟩
        exact ((e1.trans e2).trans (keepsOthers_cells hu' (fun j hj _ => hsl4.cellsAt hj))).trans (keepsOthers_cells hus7 (fun j hj _ => ⟨_, _, _, hj ▸ hc'⟩))
      · rw [List.length_append, List.map_append]
        show Sl w7 _ _ _ _ (rowC (_ ++ [curB F O (base + i)]))
        rw [rowC_snoc, ← hyc]
        exact hs'.keep hus7 (fun g hg e => by
          rcases hbf4 g hg with h | h
          · exact hv5 g h e
          · omega)
      · rcases hbf4 g hg with h | h
        · exact hf g h
        · right; omega
      · exact ((d2.keep hu4 (fun _ _ h => h)).keep hu' (fun j hj h => hS2v j hj h)).keep hus7 (fun j hj e => hS25 j hj e)
      · rcases s2 j hj with h | h
        · exact hs0 j h
        · exact hDn j (by omega)
      · obtain ⟨cs, t, z, hc⟩ := k2 j hj
        have q1 := hu4.blockv hc
        have q2 := (hu'.block j (lt_of_block q1) (fun h => hS2v j hj h)).trans q1
        exact ⟨cs, t, z, (hus7.block j (lt_of_block q2) (fun e => hS25 j hj e)).trans q2⟩
      · rcases hbf4 g hg with h | h
        · exact hS2v g hs h
        · obtain ⟨cs, t, z, hc⟩ := k2 g hs
          have := lt_of_block hc; omega
    have HP := Lib.hid hPOST
    have HW7 := Lib.hid hw7
    rw [hW4] at hrun
    have HRun := Lib.hid hrun
    clear hPOST hTW hS2v hS25 hw7 hrun hW4 hu4 hz4 g4 hcell4 hsl4 hs' hu' hbf hbf4 hv5 hus7 hc7 d2 s2 k2 hs2 n5 hcell2 hsl2 hu hcell hsl hf h0 hs0 hcs0 hv1 hus hT5 hDT hD5 hDn hT4 hy hcd hyc hd2 hu2 hc'
    gi_wp2_with (first
      | (refine wpListIn_store_new rfl _ _ _ rfl _ _ (bkC y) rfl rfl (by rw [hyc64]; rfl) hy64 (bkC_one y) ?_)
      | (refine wpListIn_load_mid rfl 54 _ rfl _ _ rfl _ _ rA Tryz.underlying54 rfl hy64 ?_)
      | (refine wpListIn_row rfl 41 54 _ rfl (bkC y) rfl hrow ?_)
      | (gi_at_builtin; refine Stop.i ?_)
      | fail)
    refine wpListIn_app rfl _ _ 41 rfl v (.slice (some ⟨W2.heap.size + 1, 0, none⟩) 1 1) ?a1 ?a2 (.slice ao' (pre.length + 1) cc') w' ?a3 ?a4
    case a1 => rfl
    case a2 => rfl
    case a3 =>
      dsimp only
      with_reducible exact HRun.out
    case a4 =>
      clear rA hrow HRun
      gi_wp2
      rw [← HW7.out]
      exact HP.out
  case done =>
    rintro Dl ys W hD hys ⟨hu, v, S1, hcell, hsl, hf, h0, hs0, hcs0, hv1⟩ hK
    obtain ⟨-, -, -, g0, g1, g2, g3, hT, hU, hT4, hT5, hD', hDT, hD5, hDn⟩ := H5.out
    have hlen : ys.length = m := by have := congrArg List.length hys; simpa using this
    have hsec : ys.map (fun x => curB F O (base + x.1)) = secsOf F O base m := by
      unfold secsOf
      rw [← hys, List.map_map]
      rfl
    rw [hlen, hsec] at hsl
    obtain ⟨ao, cc, rfl⟩ := hsl.rd.nil_iff
    have clb := cell_of_block hcell 0
    have hlb := lt_of_block hcell
    have hnl : Nib W := H.out.2.2.1.keep (S := fun j => T j) ((hU.mono (fun _ _ h => h.elim)).trans hu) (fun h => by
      rw [hT] at h
      have := H.out.2.2.1.lt
      have hA := HA.out
      rcases h with h | h | h
      · exact H.out.2.2.2.1 h.1
      · omega
      · omega)
    have h64 : All64 (secsOf F O base m) := fun x hx => by
      obtain ⟨i, -, rfl⟩ := List.mem_map.1 hx
      exact curB_len h0.good _
    have hsl' := secsOf_len F O base m
    have HE := Lib.hid (pentries (w := W) (v := .slice ao m cc) (l := secsOf F O base m) (by rw [hsl']; exact hsl.rd) h64 (by omega) (by omega) hnl)
    have hA := HA.out
    have hgg : ∀ (j : Nat) (o : Obj), A ≤ j → j < A + 4 → w5.heap[j]? = some o → W.heap[j]? = some o := fun j o h1 h2 h => (hu.block j (lt_of_block h) (hTo _ h1 (.inl h2))).trans h
    have q1 := hgg _ _ (by omega) (by omega) g1
    have q2 := hgg _ _ (by omega) (by omega) g2
    have q3 := hgg _ _ (by omega) (by omega) g3
    have HV := Lib.hid (And.intro hu (And.intro hsl (And.intro hf (And.intro h0 (And.intro hs0 (And.intro hcs0 (And.intro hK (And.intro hU (And.intro hT (And.intro hD' (And.intro q1 (And.intro q2 q3))))))))))))
    generalize secsOf F O base m = l at *
    clear g0 g1 g2 g3 hT hU hT4 hT5 hD' hDT hD5 hDn hu hcell hsl hf h0 hs0 hcs0 hv1 hK hnl h64 hsec hys hgg q1 q2 q3 hA
    gi_wp2_with fail
    go_wp2_with fail
    refine HE.out.mono ?_
    rintro e W2 ⟨v2, rfl, hs2, hf2, hb2⟩
    obtain ⟨hu, hsl, hf, h0, hs0, hcs0, hK, hU, hT, hD', q1, q2, q3⟩ := HV.out
    have hu2 : Upd (fun _ => False) W W2 := Upd.of_below hb2
    have p1 := hu2.blockv q1
    have p2 := hu2.blockv q2
    have p3 := hu2.blockv q3
    have hK2 := hu2.blockv hK
    obtain ⟨ao2, cc2, rfl⟩ := hs2.rd.nil_iff
    have hA := HA.out
    have hWA : A + 8 ≤ W.heap.size := by have := hu.size; omega
    have hn := H.out.2.1
    have hfin : ∀ (x y z : Value), ∃ W3, W3 = (((W2.setCell ⟨A + 1, 0, none⟩ x).setCell ⟨A + 1 + 1, 0, none⟩ y).setCell ⟨A + 1 + 1 + 1, 0, none⟩ z).putObj Dl (.deferred none) ∧
        (((W2.setCell ⟨A + 1, 0, none⟩ x).setCell ⟨A + 1 + 1, 0, none⟩ y).setCell ⟨A + 1 + 1 + 1, 0, none⟩ z).heap[Dl]? = some (.deferred (some [])) ∧ W3.cell? ⟨A + 1, 0, none⟩ = some x ∧ W3.cell? ⟨A + 1 + 1, 0, none⟩ = some y ∧ W3.cell? ⟨A + 1 + 1 + 1, 0, none⟩ = some z ∧ Dv (fun j => S j ∧ j < W.heap.size) W3 b F O [] ∧ Upd S w W3 ∧ (∀ u n xs, Sl W2 37 4 u n xs → From W.heap.size u → Sl W3 37 4 u n xs) := by
      intro x y z
      have u1 := upd_setCell W2 (A + 1) 0 x
      have u2 := upd_setCell (W2.setCell ⟨A + 1, 0, none⟩ x) (A + 1 + 1) 0 y
      have u3 := upd_setCell ((W2.setCell ⟨A + 1, 0, none⟩ x).setCell ⟨A + 1 + 1, 0, none⟩ y) (A + 1 + 1 + 1) 0 z
      have s1 := heap_setCell_same p1 0 x
      have s2 := heap_setCell_same ((u1.block _ (lt_of_block p2) (by omega)).trans p2) 0 y
      have s3 := heap_setCell_same ((u2.block _ (by simpa using lt_of_block p3) (by omega)).trans ((u1.block _ (lt_of_block p3) (by omega)).trans p3)) 0 z
      have k1 := (u1.block _ (lt_of_block hK2) (by omega)).trans hK2
      have k2 := (u2.block _ (lt_of_block k1) (by omega)).trans k1
      have k3 := (u3.block _ (lt_of_block k2) (by omega)).trans k2
      have u4 := upd_put (((W2.setCell ⟨A + 1, 0, none⟩ x).setCell ⟨A + 1 + 1, 0, none⟩ y).setCell ⟨A + 1 + 1 + 1, 0, none⟩ z) Dl (.deferred none)
      have hUU : Upd (fun j => j = A + 1 ∨ j = A + 1 + 1 ∨ j = A + 1 + 1 + 1 ∨ j = Dl) W2 _ := (((u1.mono (fun _ _ h => .inl h)).trans (u2.mono (fun _ _ h => .inr (.inl h)))).trans (u3.mono (fun _ _ h => .inr (.inr (.inl h))))).trans (u4.mono (fun _ _ h => .inr (.inr (.inr h))))
      refine ⟨_, rfl, k3, ?_, ?_, ?_, ?_, ?_, ?_⟩
      · have s1' := (u2.block _ (lt_of_block s1) (by omega)).trans s1
        have s1'' := (u3.block _ (lt_of_block s1') (by omega)).trans s1'
        exact (u4.cellAt (lt_of_block s1'') (by omega)).trans (cell_of_block s1'' 0)
      · have s2' := (u3.block _ (lt_of_block s2) (by omega)).trans s2
        exact (u4.cellAt (lt_of_block s2') (by omega)).trans (cell_of_block s2' 0)
      · exact (u4.cellAt (lt_of_block s3) (by omega)).trans (cell_of_block s3 0)
      · have d1 := (h0.keep hu2 (fun _ _ h => h)).keep hUU (fun j hj h => by
          obtain ⟨cs, t, zz, hc⟩ := hcs0 j hj
          rcases h with h | h | h | h
          · exact hD5 j (by omega) (by omega) (hs0 j hj)
          · exact hD5 j (by omega) (by omega) (hs0 j hj)
          · exact hD5 j (by omega) (by omega) (hs0 j hj)
          · rw [h, hK] at hc; cases hc)
        exact d1.wide (fun j hj => by
          have := hs0 j hj
          obtain ⟨cs, t, zz, hc⟩ := hcs0 j hj
          rw [hD'] at this
          refine ⟨?_, lt_of_block hc⟩
          rcases this with h | h
          · exact h.1
          · exact hn j (by omega))
      · have hX : Upd (fun j => T j ∨ j = A + 1 ∨ j = A + 1 + 1 ∨ j = A + 1 + 1 + 1 ∨ j = Dl) w5 _ := ((hu.mono (fun _ _ h => .inl h)).trans (hu2.mono (fun _ _ h => h.elim))).trans (hUU.mono (fun _ _ h => .inr h))
        refine (hU.mono (fun _ _ h => h.elim)).new hX (fun i hi hs => ?_)
        rcases hs with hs | hs | hs | hs | hs
        · rw [hT] at hs
          rcases hs with hs | hs | hs
          · exact hs.1
          · omega
          · omega
        · omega
        · omega
        · omega
        · omega
      · intro u n xs h1 h2
        exact h1.keep hUU (fun g hg h => by
          have := h2 g hg
          rcases h with h | h | h | h
          · omega
          · omega
          · omega
          · obtain ⟨cs, t, zz, hc⟩ := h1.cellsAt hg
            rw [h, hK2] at hc; cases hc)
    have HF := Lib.hid (And.intro hfin (And.intro hs2 (And.intro hf2 hWA)))
    have f1 := frozen_of_block p1 0
    have f2 := frozen_of_block p2 0
    have f3 := frozen_of_block p3 0
    have d1 := cell_of_block p1 0
    have d2 := cell_of_block p2 0
    have d3 := cell_of_block p3 0
    have l3 := lt_of_block p3
    have HP3 := Lib.hid (And.intro p1 (And.intro p2 p3))
    clear hfin hs2 hf2 hWA hu hsl hf h0 hs0 hcs0 hK hU hT hD' q1 q2 q3 hu2 p1 p2 p3 hK2 hA hn hb2
    have hAw : w.heap.size ≤ W.heap.size := by have := HA.out; have := HF.out.2.2.2; omega
    cases hro : readOk l with
    | false =>
      simp only [hro] at HF
      rw [if_neg (by decide)] at HF ⊢
      have hO := Lib.hid hro
      clear hro
      go_wp2_with fail
      obtain ⟨W3, hW3, k3, c1, c2, c3, dv, up, sl⟩ := HF.out.1 (.int .i64 0) (.slice none 0 0) (.int .i64 14)
      refine ⟨by simp, .inl ⟨_, _, rfl, run_takeDeferred k3, ?_⟩⟩
      rw [← hW3]
      refine ⟨.tuple #[.int .i64 0, .slice none 0 0, .int .i64 14], by simp [results, Tryz.results35, go_sem, c1, c2, c3], .slice none 0 0, by rw [hO.out]; rfl, by rw [hO.out]; exact Sl.nil _ _ _, From.nil _ _ _, dv.wide (fun j hj => ⟨hj.1, fun g hg => by cases hg⟩), up⟩
    | true =>
      simp only [hro] at HF ⊢
      try simp only [if_true]
      have hO := Lib.hid hro
      clear hro
      go_wp2_with fail
      obtain ⟨W3, hW3, k3, c1, c2, c3, dv, up, sl⟩ := HF.out.1 (.int .i64 (readSeq l : Nat)) (.slice ao2 (readEs l).length cc2) (.int .i64 0)
      refine ⟨by simp, .inl ⟨_, _, rfl, run_takeDeferred k3, ?_⟩⟩
      rw [← hW3]
      refine ⟨.tuple #[.int .i64 (readSeq l : Nat), .slice ao2 (readEs l).length cc2, .int .i64 0], by simp [results, Tryz.results35, go_sem, c1, c2, c3], .slice ao2 (readEs l).length cc2, by rw [hO.out]; rfl, by rw [hO.out]; exact sl _ _ _ HF.out.2.1 HF.out.2.2.1, HF.out.2.2.1.mono hAw, dv.wide (fun j hj => ⟨hj.1, fun g hg => by have := HF.out.2.2.1 g hg; omega⟩), up⟩
end Go.Proofs.YtfhfbpmlnjdfoaaGreatDoor
namespace Go.Proofs.YtfhfbpmlnjdfoaaGreatDoor
open Go Go.RowKit Go.Shelf Go.Lib Go.Sort
def cmpR (x y : List Nat) : Int := Lib.compareInt (rseq x : Nat) (rseq y : Nat)
theorem ltR (x y : List Nat) : ltOf cmpR x y = decide (rseq x < rseq y) := by
  unfold ltOf cmpR Lib.compareInt
  by_cases h1 : rseq x < rseq y
  · simp [h1]
  · by_cases h2 : rseq y < rseq x <;> simp [h1, h2]
theorem swoR : SWO (ltOf cmpR) where
  irrefl x := by rw [ltR]; simp
  trans x y z h1 h2 := by rw [ltR] at *; simp at *; omega
  ntrans x y z h1 h2 := by rw [ltR] at *; simp at *; omega
set_option maxRecDepth 100000 in
set_option maxHeartbeats 1000000 in
theorem scan2 (x y : List Nat) (W : World) : Calls Tryz.prog 109 #[.agg (recCs x).toArray, .agg (recCs y).toArray] W fun e w' => e = .returned (.int .i64 (cmpR x y)) ∧ ∃ q os', w' = Go.Sort.grow (W.drewN q) os' := by
  have hcon := fun W' => AnyG.cmp_Compare_int cmpInt (rseq x : Nat) (rseq y : Nat) W'
  change ∀ W', Calls Tryz.prog 52 _ _ _ at hcon
  have hx : recCs x = [.int .i64 (rseq x : Nat), .int .i64 ((natsI x).getD 1 0), .int .i64 ((natsI x).getD 2 0), .int .i64 ((natsI x).getD 3 0), .int .i64 ((natsI x).getD 4 0), .bool ((natsI x).getD 5 0 == 1), .int .i64 ((natsI x).getD 6 0)] := by
    unfold recCs dsR; rw [natsI_getD' x 0]; rfl
  have hy : recCs y = [.int .i64 (rseq y : Nat), .int .i64 ((natsI y).getD 1 0), .int .i64 ((natsI y).getD 2 0), .int .i64 ((natsI y).getD 3 0), .int .i64 ((natsI y).getD 4 0), .bool ((natsI y).getD 5 0 == 1), .int .i64 ((natsI y).getD 6 0)] := by
    unfold recCs dsR; rw [natsI_getD' y 0]; rfl
  rw [hx, hy]
  unfold cmpR
  generalize Lib.compareInt (rseq x : Nat) (rseq y : Nat) = r at hcon ⊢
  clear hx hy
  go_enter Tryz.func109, Tryz.ntmps109
  go_wp2_with (go_at_call 52; refine (hcon _).mono ?_; rintro e w' ⟨rfl, rfl⟩)
  go_ret
  exact ⟨rfl, 0, _, by rw [alloc_eq_grow, alloc_eq_grow, grow_grow]; rfl⟩
theorem aggRec (w : World) : (isAgg 101).run Tryz.prog w = .ok true w := by kernel_rfl
theorem sizeRec (w : World) : (Go.sizeOf 101).run Tryz.prog w = .ok 7 w := by kernel_rfl
def SortROut (w : World) (v : Value) (L : List (List Nat)) (e : Ending) (w' : World) : Prop :=
  e = .returned (.tuple #[]) ∧ ∃ L' : List (List Nat), L'.Perm L ∧ L'.Pairwise (fun x y => rseq x ≤ rseq y) ∧ Sl w' 101 7 v L.length (L'.flatMap recCs) ∧ Upd (ownS v) w w'
theorem sorted_list {L : List (List Nat)} {d : Array (List Nat)} (hp : PermIn 0 L.length L.toArray d) (hs : SortedIn (ltOf cmpR) 0 L.length d) : d.size = L.length ∧ d.toList.Perm L ∧ d.toList.Pairwise (fun x y => rseq x ≤ rseq y) := by
  obtain ⟨h1, -, h3⟩ := hp
  have h1' : d.size = L.length := by simpa using h1
  refine ⟨h1', ?_, ?_⟩
  · have e1 : d.extract 0 L.length = d := by rw [← h1', Array.extract_size]
    have e2 : L.toArray.extract 0 L.length = L.toArray := by rw [show L.length = L.toArray.size from by simp, Array.extract_size]
    rw [e1, e2] at h3
    exact h3
  · rw [List.pairwise_iff_getElem]
    intro i j hi hj hij
    simp only [Array.length_toList] at hi hj
    have := hs i j (Nat.zero_le _) hij (by omega)
    rw [ltR, getElem!_pos d i hi, getElem!_pos d j hj] at this
    simp only [Array.getElem_toList]
    exact Nat.le_of_not_lt (of_decide_eq_false this)
theorem sort_recs {w : World} {v : Value} {L : List (List Nat)} (h : Sl w 101 7 v L.length (L.flatMap recCs)) (hl : L.length ≤ 1024) :
    Calls Tryz.prog 108 #[v, .func (.func 109) #[] #[]] w (SortROut w v L) := by
  have eg : ∀ args w, (callFunc 109 args).run Tryz.prog w = .ok (.enter 109 args) w := enters_of Tryz.func109 (by kernel_rfl) rfl
  have h0 := h
  obtain ⟨-, ⟨rfl, hL⟩ | ⟨g, off, cap, cur, rfl, hg, -⟩⟩ := h0
  · obtain rfl := List.eq_nil_of_length_eq_zero hL
    refine (sort_nilR _ w).mono ?_
    rintro e w' ⟨rfl, rfl⟩
    exact ⟨rfl, [], List.Perm.refl _, List.Pairwise.nil, Sl.nil _ _ _, Upd.refl _ _⟩
  · have hcon := AnyQ.slices_SortFunc sortRec 7 aggRec sizeRec recCs (fun _ => rfl) (fun x => dsR_one (natsI x)) cmpR swoR 109 #[] g off cap L.toArray w eg (fun m os dk _ x y => scan2 x y _) (holds_sl (enc := recCs) (k := 7) (fun _ => rfl) (by decide) h) (lt_of_block hg) (by simp; omega)
    simp only [List.size_toArray] at hcon
    change Calls Tryz.prog 108 _ _ _ at hcon
    refine hcon.mono ?_
    rintro e w' ⟨rfl, d, n, os, hp, hs, rfl⟩
    obtain ⟨s1, s2, s3⟩ := sorted_list hp hs
    obtain ⟨t1, t2⟩ := sorted_sl (enc := recCs) (k := 7) (fun _ => rfl) (by decide) h d s1 n os
    exact ⟨rfl, d.toList, s2, s3, t1, t2.mono (fun j _ e => e ▸ rfl)⟩
def ScanOut (S : Nat → Prop) (w : World) (b : Nat) (F : List Bk) (O : List (Nat × Bk)) (base n : Nat) (e : Ending) (w' : World) : Prop :=
  ∃ (v : Value) (L : List (List Nat)), e = .returned (.tuple #[v, .int .i64 0]) ∧ L.Perm (scanTo F O base n n) ∧ L.Pairwise (fun x y => rseq x ≤ rseq y) ∧ Sl w' 101 7 v L.length (L.flatMap recCs) ∧ From w.heap.size v ∧ Dv (fun j => S j ∧ ∀ g, v.ownBlock = some g → g ≠ j) w' b F O [] ∧ Upd S w w'
set_option maxRecDepth 100000 in
set_option maxHeartbeats 2000000 in
theorem jscan {S : Nat → Prop} {w : World} {b : Nat} {F : List Bk} {O : List (Nat × Bk)} (hd : Dv S w b F O []) (hn : ∀ j, w.heap.size ≤ j → S j) (base n : Nat) (hn1 : 1 ≤ n) (hn2 : n ≤ 1024) (hbn : base + n ≤ F.length) (hN : Nib w) (hgS : ¬ S 0) :
    Calls Tryz.prog 40 #[.pointer (some ⟨b, 0, none⟩), .int .i64 (base : Int), .int .i64 (n : Int)] w (ScanOut S w b F O base n) := by
  have hfl := hd.good.fl
  obtain ⟨w1, hw1⟩ : ∃ w1, w1 = ((w.alloc (.cells #[.pointer (some ⟨b, 0, none⟩)] 46)).alloc (.cells #[.int .i64 (base : Int)] 3)).alloc (.cells #[.int .i64 (n : Int)] 3) := ⟨_, rfl⟩
  obtain ⟨A, hA⟩ : ∃ A, A = w.heap.size := ⟨_, rfl⟩
  have hu1 : Upd (fun _ => False) w w1 := by rw [hw1]; exact (((Upd.refl _ w).alloc _).alloc _).alloc _
  have z1 : w1.heap.size = A + 3 := by rw [hw1, hA]; simp
  have e0 : w1.heap[A]? = some (.cells #[.pointer (some ⟨b, 0, none⟩)] 46 (0, 0)) := by rw [hw1, hA]; exact (Below.heap_alloc _ _ _ (by simp <;> omega)).trans ((Below.heap_alloc _ _ _ (by simp)).trans (heap_alloc_last w _ rfl))
  have e1 : w1.heap[A + 1]? = some (.cells #[.int .i64 (base : Int)] 3 (0, 0)) := by rw [hw1, hA]; exact (Below.heap_alloc _ _ _ (by simp)).trans (heap_alloc_last _ _ (by simp))
  have e2 : w1.heap[A + 2]? = some (.cells #[.int .i64 (n : Int)] 3 (0, 0)) := by rw [hw1, hA]; exact heap_alloc_last _ _ (by simp)
  obtain ⟨w2, hw2⟩ : ∃ w2, w2 = w1.alloc (.cells #[.slice none 0 0] 23) := ⟨_, rfl⟩
  have hu2 : Upd (fun _ => False) w1 w2 := by rw [hw2]; exact (Upd.refl _ w1).alloc _
  have z2 : w2.heap.size = A + 4 := by rw [hw2]; simp; omega
  have e3 : w2.heap[A + 3]? = some (.cells #[.slice none 0 0] 23 (0, 0)) := by rw [hw2]; exact heap_alloc_last w1 _ z1.symm
  have HM := Lib.hid (jmay_ok (hd.new hu1) base n hn1 hn2 hbn hfl)
  have HS := Lib.hid (jsectors base n hn2 (by omega) w2)
  have c0 := cell_of_block e0 0
  have c1 := cell_of_block e1 0
  have c2 := cell_of_block e2 0
  have hA1 := hA
  have HWA := Lib.hid hA1
  have e0' := hu2.blockv e0
  have e1' := hu2.blockv e1
  have e2' := hu2.blockv e2
  have hL0 := scanTo_le F O base n n
  have H := Lib.hid (And.intro hd (And.intro hn (And.intro hN (And.intro hgS (And.intro hu1 (And.intro hu2 (And.intro z2 (And.intro e0' (And.intro e1' (And.intro e2' (And.intro e3 hL0)))))))))))
  have k1 : (w1.alloc (.cells #[.slice none 0 0] 23)).cell? ⟨A + 1, 0, none⟩ = some (.int .i64 (base : Int)) := by rw [← hw2]; exact cell_of_block e1' 0
  have k2 : (w1.alloc (.cells #[.slice none 0 0] 23)).cell? ⟨A + 1 + 1, 0, none⟩ = some (.int .i64 (n : Int)) := by rw [← hw2]; exact cell_of_block e2' 0
  have k3 : w1.cell? ⟨A + 1, 0, none⟩ = some (.int .i64 (base : Int)) := cell_of_block e1 0
  have k4 : w1.cell? ⟨A + 1 + 1, 0, none⟩ = some (.int .i64 (n : Int)) := cell_of_block e2 0
  have HW := Lib.hid (And.intro hw1 hw2)
  have HZ1 := Lib.hid z1
  clear hd hn hN hgS hu1 hu2 z2 e0 e1 e2 e0' e1' e2' e3 hw2 hw1 c0 c1 c2 hA hA1 z1 hL0
  go_enter Tryz.func40, Tryz.ntmps40
  go_wp2_with fail
  rw [← HW.out.1, ← HWA.out]
  refine HM.out.mono ?_
  rintro e w' ⟨rfl, rfl⟩
  go_wp2_with fail
  rw [← HW.out.2, HZ1.out]
  refine HS.out.mono ?_
  rintro e w3 ⟨g, rfl, hg, hgl, hb3⟩
  have z3 := hb3.size
  have hub := Upd.of_below (S := fun _ => False) hb3
  have q0 := hub.blockv (H.out.2.2.2.2.2.2.2.1)
  have q1 := hub.blockv (H.out.2.2.2.2.2.2.2.2.1)
  have q2 := hub.blockv (H.out.2.2.2.2.2.2.2.2.2.1)
  have q3 := hub.blockv (H.out.2.2.2.2.2.2.2.2.2.2.1)
  have HF : Calls Tryz.prog 104 #[.slice (some ⟨g, 0, none⟩) n n, .func (.func 106) #[] #[.pointer (some ⟨A, 0, none⟩), .pointer (some ⟨A + 2, 0, none⟩), .pointer (some ⟨A + 1, 0, none⟩), .pointer (some ⟨A + 3, 0, none⟩)]] w3 fun e w' =>
      e = .returned (.int .i64 0) ∧ ScI (fun j => (S j ∧ j < A) ∨ w3.heap.size ≤ j) w3 b (A + 3) F O (scanTo F O base n n) w' := by
    obtain ⟨hd, hn, hN, hgS, hu1, hu2, z2, -⟩ := H.out
    have hA := HWA.out
    have hl := lt_of_block hg
    have dv3 : Dv (fun j => S j ∧ j < A) w3 b F O [] := (((hd.shrink (T := fun j => S j ∧ j < A) (fun j h1 h2 => ⟨h1, by omega⟩)).new hu1).new hu2).new hub
    refine sfirst ⟨Upd.refl _ _, .slice none 0 0, fun j => S j ∧ j < A, q3, Sl.nil _ _ _, From.nil _ _ _, dv3, fun j h => .inl h, fun j h => by omega, fun g h => by cases h⟩ (fun j h => .inr h) ⟨by omega, by intro h; omega⟩ ⟨cell_of_block q0 0, by intro h; omega, by omega⟩ ⟨cell_of_block q2 0, by intro h; omega, by omega⟩ ⟨cell_of_block q1 0, by intro h; omega, by omega⟩ ⟨hg, by intro h; omega, by omega⟩ hn2 hbn (((hN.keep hu1 (fun h => h)).keep hu2 (fun h => h)).keep hub (fun h => h)) ⟨fun h => ?_, ?_⟩
    · rcases h with h | h
      · exact hgS h.1
      · have := hN.lt; omega
    · have := hN.lt; omega
  have HF := Lib.hid HF
  have HB := Lib.hid (And.intro hub (And.intro hgl z3))
  clear q0 q1 q2 q3 hg hub z3 hgl hb3 k1 k2 k3 k4
  go_wp2_with fail
  refine HF.out.mono ?_
  rintro e w4 ⟨rfl, hi⟩
  obtain ⟨hu4, v, S1, p4, sl4, f4, dv4, hS1, hS2, hS3⟩ := hi
  obtain ⟨ao, cap, rfl⟩ := sl4.rd.nil_iff
  have c4 := cell_of_block p4 0
  have HSo := Lib.hid (sort_recs sl4 (Nat.le_trans H.out.2.2.2.2.2.2.2.2.2.2.2 hn2))
  have H4 := Lib.hid (And.intro hu4 (And.intro p4 (And.intro f4 (And.intro dv4 (And.intro hS1 (And.intro hS2 hS3))))))
  clear hu4 p4 sl4 f4 dv4 hS1 hS2 hS3
  go_wp2_with fail
  refine HSo.out.mono ?_
  rintro e w5 ⟨rfl, L', hp, hs, sl5, hu5⟩
  have hfin : (Dv (fun j => S j ∧ ∀ g, (Value.slice ao (scanTo F O base n n).length cap).ownBlock = some g → g ≠ j) w5 b F O [] ∧ Upd S w w5) ∧ (From w.heap.size (.slice ao (scanTo F O base n n).length cap) ∧ w5.cell? ⟨A + 3, 0, none⟩ = some (.slice ao (scanTo F O base n n).length cap)) := by
    obtain ⟨hd, hn, hN, hgS, hu1, hu2, z2, -⟩ := H.out
    obtain ⟨hub, hgl, z3⟩ := HB.out
    obtain ⟨hu4, p4, f4, dv4, hS1, hS2, hS3⟩ := H4.out
    have hA := HWA.out
    refine ⟨⟨?_, ?_⟩, f4.mono (by omega), ?_⟩
    · refine (dv4.keep hu5 (fun j h1 h2 => hS3 j h2 h1)).wide (fun j h => ⟨?_, fun g hg e => hS3 g hg (e ▸ h)⟩)
      rcases hS1 j h with h | h
      · exact h.1
      · exact hn j (by omega)
    · refine ((((hu1.trans hu2).mono (fun _ _ h => h.elim)).trans (hub.mono (fun _ _ h => h.elim))).new hu4 (fun j hj h => ?_)).new hu5 (fun j hj h => ?_)
      · rcases h with (h | h) | h
        · exact h.1
        · omega
        · omega
      · have := f4 j h
        omega
    · refine hu5.cellv c4 (fun h => ?_)
      have := f4 _ h
      omega
  have c5 := hfin.2.2
  have HFin := Lib.hid (And.intro hfin (And.intro hp (And.intro hs sl5)))
  have hpl := hp.length_eq
  clear hfin hp hs sl5 hu5 c4
  go_wp2_with fail
  refine bodyPost_ret (v := .tuple #[.slice ao (scanTo F O base n n).length cap, .int .i64 0]) (by simp [results, Tryz.results40, go_sem]) rfl ?_
  exact ⟨_, L', rfl, HFin.out.2.1, HFin.out.2.2.1, by rw [hpl]; have := HFin.out.2.2.2; exact this, HFin.out.1.2.1, HFin.out.1.1.1, HFin.out.1.1.2⟩
def cmpE (x y : EI) : Int := Lib.compareInt x.b y.b
theorem ltE (x y : EI) : ltOf cmpE x y = decide (x.b < y.b) := by
  unfold ltOf cmpE Lib.compareInt
  by_cases h1 : x.b < y.b
  · simp [h1]
  · by_cases h2 : y.b < x.b <;> simp [h1, h2]
theorem swoE : SWO (ltOf cmpE) where
  irrefl x := by rw [ltE]; simp
  trans x y z h1 h2 := by rw [ltE] at *; simp at *; omega
  ntrans x y z h1 h2 := by rw [ltE] at *; simp at *; omega
set_option maxRecDepth 100000 in
set_option maxHeartbeats 1000000 in
theorem apply1 (x y : EI) (W : World) : Calls Tryz.prog 51 #[.agg x.cs.toArray, .agg y.cs.toArray] W fun e w' => e = .returned (.int .i64 (cmpE x y)) ∧ ∃ q os', w' = Go.Sort.grow (W.drewN q) os' := by
  have hcon := fun W' => AnyG.cmp_Compare_int cmpInt x.b y.b W'
  change ∀ W', Calls Tryz.prog 52 _ _ _ at hcon
  obtain ⟨a, b, c, d⟩ := x
  obtain ⟨a', b', c', d'⟩ := y
  unfold cmpE EI.cs
  dsimp only at hcon ⊢
  generalize Lib.compareInt a a' = r at hcon ⊢
  go_enter Tryz.func51, Tryz.ntmps51
  go_wp2_with (go_at_call 52; refine (hcon _).mono ?_; rintro e w' ⟨rfl, rfl⟩)
  go_ret
  exact ⟨rfl, 0, _, by rw [alloc_eq_grow, alloc_eq_grow, grow_grow]; rfl⟩
theorem aggEnt (w : World) : (isAgg 37).run Tryz.prog w = .ok true w := by kernel_rfl
theorem sizeEnt (w : World) : (Go.sizeOf 37).run Tryz.prog w = .ok 4 w := by kernel_rfl
def SortEOut (w : World) (v : Value) (L : List EI) (e : Ending) (w' : World) : Prop :=
  e = .returned (.tuple #[]) ∧ ∃ L' : List EI, L'.Perm L ∧ L'.Pairwise (fun x y => x.b ≤ y.b) ∧ Sl w' 37 4 v L.length (L'.flatMap EI.cs) ∧ Upd (ownS v) w w'
theorem sorted_listE {L : List EI} {d : Array EI} [Inhabited EI] (hp : PermIn 0 L.length L.toArray d) (hs : SortedIn (ltOf cmpE) 0 L.length d) : d.toList.Perm L ∧ d.size = L.length ∧ d.toList.Pairwise (fun x y => x.b ≤ y.b) := by
  obtain ⟨h1, -, h3⟩ := hp
  have h1' : d.size = L.length := by simpa using h1
  refine ⟨?_, h1', ?_⟩
  · have e1 : d.extract 0 L.length = d := by rw [← h1', Array.extract_size]
    have e2 : L.toArray.extract 0 L.length = L.toArray := by rw [show L.length = L.toArray.size from by simp, Array.extract_size]
    rw [e1, e2] at h3
    exact h3
  · rw [List.pairwise_iff_getElem]
    intro i j hi hj hij
    simp only [Array.length_toList] at hi hj
    have := hs i j (Nat.zero_le _) hij (by omega)
    rw [ltE, getElem!_pos d i hi, getElem!_pos d j hj] at this
    simp only [Array.getElem_toList]
    exact Int.not_lt.1 (of_decide_eq_false this)
instance : Inhabited EI := ⟨EI.zero⟩
theorem sort_ents {w : World} {v : Value} {L : List EI} (h : Sl w 37 4 v L.length (L.flatMap EI.cs)) (hl : L.length ≤ 1048576) :
    Calls Tryz.prog 50 #[v, .func (.func 51) #[] #[]] w (SortEOut w v L) := by
  have eg : ∀ args w, (callFunc 51 args).run Tryz.prog w = .ok (.enter 51 args) w := enters_of Tryz.func51 (by kernel_rfl) rfl
  have h0 := h
  obtain ⟨-, ⟨rfl, hL⟩ | ⟨g, off, cap, cur, rfl, hg, -⟩⟩ := h0
  · obtain rfl := List.eq_nil_of_length_eq_zero hL
    refine (sort_nilE _ w).mono ?_
    rintro e w' ⟨rfl, rfl⟩
    exact ⟨rfl, [], List.Perm.refl _, List.Pairwise.nil, Sl.nil _ _ _, Upd.refl _ _⟩
  · have hcon := AnyQ.slices_SortFunc sortEnt 4 aggEnt sizeEnt EI.cs (fun _ => rfl) EI.one cmpE swoE 51 #[] g off cap L.toArray w eg (fun m os dk _ x y => apply1 x y _) (holds_sl (enc := EI.cs) (k := 4) (fun _ => rfl) (by decide) h) (lt_of_block hg) (by simp; omega)
    simp only [List.size_toArray] at hcon
    change Calls Tryz.prog 50 _ _ _ at hcon
    refine hcon.mono ?_
    rintro e w' ⟨rfl, d, n, os, hp, hs, rfl⟩
    obtain ⟨s2, s1, s3⟩ := sorted_listE hp hs
    obtain ⟨t1, t2⟩ := sorted_sl (enc := EI.cs) (k := 4) (fun _ => rfl) (by decide) h d s1 n os
    exact ⟨rfl, d.toList, s2, s3, t1, t2.mono (fun j _ e => e ▸ rfl)⟩
end Go.Proofs.YtfhfbpmlnjdfoaaGreatDoor
