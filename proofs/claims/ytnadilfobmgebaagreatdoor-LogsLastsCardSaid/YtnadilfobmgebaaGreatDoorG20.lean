/- Loads and stores of rows in a round; a device's blocks are cells. A range over a function whose rounds turn blocks of cells alone; free: all stale slots are free. Numbers with their sizes; what a thing's numbers are, with the row's capacity. Pages: their numbers. Equality of arrays of ints. -/
import Derived.RangeFuncWrites
import Derived.Test.YtnadilfobmgebaaGreatDoorG19
import Derived.Test.YtnadilfobmgebaaGreatDoorG16
import Derived.Test.YtnadilfobmgebaaGreatDoorG12
import Derived.Test.YtnadilfobmgebaaGreatDoorG13
import Derived.Laws.Cover3
import Derived.Test.YtnadilfobmgebaaGreatDoorG05
import Derived.Test.YtnadilfobmgebaaGreatDoorG01
import Derived.Laws.StructEq
namespace Go.Proofs.YtnadilfobmgebaaGreatDoor
open Go Go.RowKit Go.Shelf
attribute [local go_sem] Oper.semAt_some
def CellsIn (w : World) (S : Nat → Prop) : Prop := ∀ j, S j → j < w.heap.size → ∃ cs t z, w.heap[j]? = some (.cells cs t z)
theorem keepsOthers_cells {S : Nat → Prop} {w w' : World} (hu : Upd S w w') (hS : CellsIn w S) : KeepsOthers w w' :=
  ⟨hu.size, fun k o hk ho => by
    have hl := lt_of_block hk
    refine (hu.block k hl (fun hs => ?_)).trans hk
    obtain ⟨cs, t, z, h⟩ := hS k hs hl
    rw [hk] at h
    cases h
    simp [Obj.isCells] at ho⟩
theorem upd_grown {S : Nat → Prop} {a w w' : World} {row : Option Nat} (h : Upd S a w) (hg : w.grownBy w' row) (hr : ∀ r, row = some r → S r) : Upd S a w' :=
  h.trans (Upd.of_grown hg (fun g e _ => hr g e))
theorem keep_grown {w w' : World} {row : Option Nat} {j : Nat} {cs : Array Value} {t : TypeId} {z : Nat × Nat} (h : w.heap[j]? = some (.cells cs t z)) (_hg : w.grownBy w' row) (hr : ∀ r, row = some r → ∃ o : Obj, w.heap[r]? = some o ∧ o.isCells = false) : row ≠ some j := fun e => by
  obtain ⟨o, ho, hi⟩ := hr j e
  rw [h] at ho
  cases ho
  simp [Obj.isCells] at hi
theorem zlit : (#[.int .u8 0, .int .u8 0, .int .u8 0, .int .u8 0, .int .u8 0, .int .u8 0, .int .u8 0, .int .u8 0, .int .u8 0, .int .u8 0, .int .u8 0, .int .u8 0, .int .u8 0, .int .u8 0, .int .u8 0, .int .u8 0, .int .u8 0, .int .u8 0, .int .u8 0, .int .u8 0, .int .u8 0, .int .u8 0, .int .u8 0, .int .u8 0, .int .u8 0, .int .u8 0, .int .u8 0, .int .u8 0, .int .u8 0, .int .u8 0, .int .u8 0, .int .u8 0, .int .u8 0, .int .u8 0, .int .u8 0, .int .u8 0, .int .u8 0, .int .u8 0, .int .u8 0, .int .u8 0, .int .u8 0, .int .u8 0, .int .u8 0, .int .u8 0, .int .u8 0, .int .u8 0, .int .u8 0, .int .u8 0, .int .u8 0, .int .u8 0, .int .u8 0, .int .u8 0, .int .u8 0, .int .u8 0, .int .u8 0, .int .u8 0, .int .u8 0, .int .u8 0, .int .u8 0, .int .u8 0, .int .u8 0, .int .u8 0, .int .u8 0, .int .u8 0] : Array Value) = (bkC zB).toArray := by kernel_rfl
def ckW (base : Nat) (B : List Bk) (i : Nat) : Nat × Bk := (base + i, B.getD i zB)
def ckO (base m : Nat) (B : List Bk) : List (Nat × Bk) := (List.range m).map (ckW base B)
theorem DvAt.cells {w : World} {b : Nat} {vf vo vp : Value} {F : List Bk} {O : List (Nat × Bk)} {P : List Int} (h : DvAt w b vf vo vp F O P) : ∀ j, dvS b vf vo vp j → ∃ cs t, w.heap[j]? = some (.cells cs t (0, 0)) := by
  have hs : ∀ {e : TypeId} {k n : Nat} {v : Value} {xs : List Value}, Sl w e k v n xs → ∀ j, v.ownBlock = some j → ∃ cs t, w.heap[j]? = some (.cells cs t (0, 0)) := by
    intro e k n v xs hsl j hj
    rcases hsl with ⟨-, ⟨rfl, -⟩ | ⟨g, off, cap, cur, rfl, hg, -⟩⟩
    · cases hj
    · cases hj; exact ⟨_, _, hg⟩
  rintro j (rfl | hj | hj | hj)
  · exact ⟨_, _, h.str⟩
  · exact hs h.fs j hj
  · exact hs h.os j hj
  · exact hs h.ps j hj
theorem Dv.grown {S : Nat → Prop} {w w' : World} {row : Option Nat} {b : Nat} {F : List Bk} {O : List (Nat × Bk)} {P : List Int} (h : Dv S w b F O P) (hg : w.grownBy w' row) (hr : ∀ r, row = some r → ∃ o : Obj, w.heap[r]? = some o ∧ o.isCells = false) : Dv S w' b F O P := by
  obtain ⟨vf, vo, vp, h, hS⟩ := h
  refine ⟨vf, vo, vp, h.keep (Upd.of_grown (S := fun j => row = some j) hg (fun g e _ => e)) (fun j hj e => ?_), hS⟩
  obtain ⟨cs, t, hc⟩ := h.cells j hj
  obtain ⟨o, ho, hi⟩ := hr j e
  rw [hc] at ho
  cases ho
  simp [Obj.isCells] at hi
section
variable {F : Fence} {n : Nat} {P : Program} {ops : Array Oper} {rest : List Oper} {op : Oper} {a : Act} {w : World} {Q : Exit → Act → World → Prop}
theorem wpIn_load_mid {K : Act → World → Prop} (ty : TypeId) (x : Operand) (ho : op.op = .load ty x) (b o : Nat) (hx : a.eval x = .pointer (some ⟨b, o, none⟩)) (cs : List Value) (d : TypeDesc) (hc : w.rangeAt b o cs)
    (hu : P.underlying ty = some d) (hd : d.isRow = true) (hi : (P.info? ty).map (·.size) = some cs.length) (h : K (a.put op.dst (.agg cs.toArray)) w) : op.wpIn F n P a w K Q := by
  unfold Oper.wpIn
  refine ⟨by simp [Oper.about, ho], ?_⟩
  rw [Oper.semAt_plain F _ _ (by rw [ho]; intro c hc'; cases hc')]
  unfold execOp
  simp only [ho, hx, Instr.loadAt, Instr.sureAddr, Sem.run_bind, Sem.run_pure, Result.andThen_ok, run_loadVar_mid w b o ty cs d hc hu hd hi]
  exact h
theorem wpListIn_load_mid (hgd : op.guard = none) (ty : TypeId) (x : Operand) (ho : op.op = .load ty x) (b o : Nat) (hx : a.eval x = .pointer (some ⟨b, o, none⟩)) (cs : List Value) (d : TypeDesc) (hc : w.rangeAt b o cs)
    (hu : P.underlying ty = some d) (hd : d.isRow = true) (hi : (P.info? ty).map (·.size) = some cs.length) (h : wpListIn F n P ops Q rest (a.put op.dst (.agg cs.toArray)) w) : wpListIn F n P ops Q (op :: rest) a w :=
  wpListIn_plain hgd fun _ hK => wpIn_load_mid ty x ho b o hx cs d hc hu hd hi (hK _ _ h)
theorem wpIn_store_mid {K : Act → World → Prop} (ty : TypeId) (x y : Operand) (ho : op.op = .store ty x y) (b o : Nat) (cells : Array Value) (hx : a.eval x = .pointer (some ⟨b, o, none⟩)) (hy : a.eval y = .agg cells)
    (ht : w.there b o cells.size) (hi : (P.info? ty).map (·.size) = some cells.size) (h1 : cells.all (·.oneCell') = true)
    (h : K (a.put op.dst undef) (w.setCells b o cells.toList)) : op.wpIn F n P a w K Q := by
  unfold Oper.wpIn
  refine ⟨by simp [Oper.about, ho], ?_⟩
  rw [Oper.semAt_plain F _ _ (by rw [ho]; intro c hc'; cases hc')]
  unfold execOp
  simp only [ho, hx, hy, Instr.storeAt, Instr.sureAddr, Sem.run_bind, Sem.run_pure, Result.andThen_ok, run_storeVar_mid w b o ty cells ht hi h1]
  exact h
theorem wpListIn_store_mid (hgd : op.guard = none) (ty : TypeId) (x y : Operand) (ho : op.op = .store ty x y) (b o : Nat) (cells : Array Value) (hx : a.eval x = .pointer (some ⟨b, o, none⟩)) (hy : a.eval y = .agg cells)
    (ht : w.there b o cells.size) (hi : (P.info? ty).map (·.size) = some cells.size) (h1 : cells.all (·.oneCell') = true)
    (h : wpListIn F n P ops Q rest (a.put op.dst undef) (w.setCells b o cells.toList)) : wpListIn F n P ops Q (op :: rest) a w :=
  wpListIn_plain hgd fun _ hK => wpIn_store_mid ty x y ho b o cells hx hy ht hi h1 (hK _ _ h)
theorem wpListIn_store_new (hgd : op.guard = none) (ty : TypeId) (x y : Operand) (ho : op.op = .store ty x y)
    (zs : Array Value) (t : TypeId) (vs : List Value) (hx : a.eval x = .pointer (some ⟨w.heap.size, 0, none⟩)) (hy : a.eval y = .agg vs.toArray) (hz : zs.size = vs.length)
    (hi : (P.info? ty).map (·.size) = some vs.length) (h1 : ∀ v ∈ vs, v.oneCell' = true)
    (h : wpListIn F n P ops Q rest (a.put op.dst undef) (w.alloc (.cells vs.toArray t))) : wpListIn F n P ops Q (op :: rest) a (w.alloc (.cells zs t)) := by
  refine wpListIn_store_mid hgd ty x y ho w.heap.size 0 vs.toArray hx hy (fun j hj => ?_) (by simpa using hi) (all_oneCell_toArray h1) ?_
  · rw [cell_of_block (heap_alloc_last w _ rfl), frozen_of_block (heap_alloc_last w _ rfl)]
    simp at hj
    exact ⟨by rw [Nat.zero_add, Array.getElem?_eq_getElem (by omega)]; rfl, rfl⟩
  · rw [List.toList_toArray, alloc_store w t vs zs hz]; exact h
end
attribute [local go_sem] Oper.semAt_some
theorem Ss.exact {S : Nat → Prop} {w : World} {b : Nat} {l : List Int} (h : Ss S w b l) : ∃ S0 : Nat → Prop, Ss S0 w b l ∧ (∀ j, S0 j → S j) ∧ ∀ j, S0 j → ∃ cs t z, w.heap[j]? = some (.cells cs t z) := by
  obtain ⟨v, h, hb, hs⟩ := h
  refine ⟨fun j => j = b ∨ v.ownBlock = some j, ⟨v, h, .inl rfl, fun j hj => .inr hj⟩, fun j hj => by rcases hj with rfl | hj; exact hb; exact hs j hj, fun j hj => ?_⟩
  rcases hj with rfl | hj
  · exact ⟨_, _, _, h.str⟩
  · rcases h.sl with ⟨-, ⟨e, -⟩ | ⟨g, off, cap, cur, e, hg, -⟩⟩
    · rw [e] at hj; cases hj
    · rw [e] at hj; cases hj; exact ⟨_, _, _, hg⟩
theorem Ss.grown {S : Nat → Prop} {w w' : World} {b : Nat} {l : List Int} {row : Option Nat} (h : Ss S w b l) (hg : w.grownBy w' row) (hr : ∀ r, row = some r → ∃ o : Obj, w.heap[r]? = some o ∧ o.isCells = false) : Ss S w' b l := by
  obtain ⟨S0, h0, hs, hc⟩ := h.exact
  have := (Ss.thing b l).keep h0 (Upd.of_grown (S := fun j => row = some j) hg (fun g e _ => e)) (fun j hj e => by
    obtain ⟨cs, t, z, hj'⟩ := hc j hj
    exact keep_grown hj' hg hr e)
  exact (Ss.thing b l).out this (fun j _ hj => hs j hj)
theorem Ss.sb {S : Nat → Prop} {w : World} {b : Nat} {l : List Int} (h : Ss S w b l) : S b := by obtain ⟨v, h, hb, hs⟩ := h; exact hb
theorem sturn {S : Nat → Prop} {w : World} {b : Nat} {l : List Int} (h : Ss S w b l) (ht : Tur w) (slot state : Int) :
    Calls Tryz.prog 182 #[ptr b, .int .i64 slot, .int .i64 state] w fun e w' => e = .returned (.int .i64 (turnCode l slot state)) ∧ Ss S w' b (turnList l slot state) ∧ Upd S w w' := by
  obtain ⟨v, h, hb, hs⟩ := h
  exact (turn_any h ht slot state).mono fun _ _ ⟨he, h', hu⟩ => ⟨he, ⟨v, h', hb, hs⟩, hu.mono (fun k _ hk => hs k hk)⟩
theorem turnList_len (l : List Int) (slot state : Int) : (turnList l slot state).length = l.length := by unfold turnList; split <;> simp
def freeTo (l : List Int) (pre : List Nat) : List Int := pre.foldl (fun (l : List Int) (k : Nat) => turnList l (k : Int) 0) l
theorem freeTo_snoc (l : List Int) (pre : List Nat) (x : Nat) : freeTo l (pre ++ [x]) = turnList (freeTo l pre) (x : Int) 0 := by simp [freeTo]
theorem freeTo_len (l : List Int) (pre : List Nat) : (freeTo l pre).length = l.length := by
  induction pre generalizing l with
  | nil => rfl
  | cons x pre ih => exact (ih (turnList l (x : Int) 0)).trans (turnList_len _ _ _)
section
variable {own : Nat → Nat} {w w' : World} {c : Nat} {n : CaN} {p : CaP} {a : CaS}
def FreeOut (own : Nat → Nat) (w : World) (c : Nat) (n : CaN) (p : CaP) (a : CaS) (e : Ending) (w' : World) : Prop := CaOut own w c n p { a with st := freeTo a.st (pos a.st 3) } (.tuple #[]) e w'
set_option maxRecDepth 100000 in
set_option maxHeartbeats 1000000 in
theorem ca_free (h : CaAt own w c n p a) : Calls Tryz.prog 142 #[ptr c] w (FreeOut own w c n p a) := by
  have hu0 : Upd (fun _ => False) w (w.alloc (.cells #[ptr c] 95)) := (Upd.refl _ w).alloc _
  have h1 := h.new hu0
  have bO0 : Boxed (w.alloc (.cells #[ptr c] 95)) w.heap.size 95 (ptr c) := Boxed.new w _ _
  obtain ⟨d0, d1, d2, d3, d4, d5, d6, d7, d8⟩ := h1.cells
  obtain ⟨vs, hss, hsb, hsv⟩ := h1.ss
  have hpos : 0 < a.st.length := by have := h.sl; have := h.ok.s1; omega
  have hA := all_any hss 3 hpos
  have hle := hss.le
  have HC := Lib.hid (And.intro h (And.intro hu0 (And.intro h1 hA)))
  have hz : (w.alloc (.cells #[ptr c] 95)).heap.size = w.heap.size + 1 := by simp
  have hcl := h.clt
  clear h hu0 h1 hA hss hsb hsv d0 d1 d2 d3 d4 d6 d7 d8
  refine (callsIn_wide (n := 3)).1 ?_
  refine callsIn_of_wp_marks Tryz.func142 rfl trivial ?_ rfl
  simp only [Tryz.ntmps142, List.size_toArray, List.length_cons, List.length_nil, Nat.reduceAdd, Nat.reduceSub, Array.replicate_succ, Array.replicate_zero, List.push_toArray, List.append_toArray, List.nil_append, List.cons_append]
  gi_wp2_with (refine ⟨trivial, ?_⟩; gi_at_call 149; refine (callsIn_wide.2 HC.out.2.2.2).mono ?_; rintro e w1 ⟨Bs, Bt, g, off, cap, rfl, hge, hBs, hBt, hg, hcs, hct, hcl, hb1⟩)
  have hsz := hb1.size
  rw [hz] at hsz hge
  have hu1 : Upd (fun _ => False) w w1 := HC.out.2.1.trans (Upd.of_below hb1)
  have hca := HC.out.1.new hu1
  have bO : Boxed w1 w.heap.size 95 (ptr c) := (hb1.block _ (by rw [hz]; omega)).trans bO0
  have hS : Hid (∀ j, ¬ (own j = 6) → j < w1.heap.size → ¬ (w1.heap.size ≤ j ∨ own j = 6)) := fun j h1 h2 h => by rcases h with h | h; omega; exact h1 h
  have hfar : Hid (∀ j, w.heap.size ≤ j → ¬ own j = 6) := fun j hj e => by rw [HC.out.1.far j hj] at e; exact absurd e (by decide)
  have HA := Lib.hid hca
  clear hca
  refine wpIn_rangeFunc_ownF rfl (by omega) (gf := 187) (lb := #[.pointer (some ⟨Bs, 0, none⟩), .pointer (some ⟨Bt, 0, none⟩)]) rfl trivial (enters_of Tryz.func187 (by kernel_rfl) rfl)
    (sit_stops Fence.wide _ trivial rfl (by omega) (fun j => w1.heap.size ≤ j ∨ own j = 6) Bs Bt g off cap a.st 3 w1 hle hg hBt hBs (hS.out _ (hfar.out _ (by omega)) hg) (hS.out _ (hfar.out _ (by omega)) hBt) hcs hct hcl) supd_t (fun W l o o' hl => supd_b (M := w1.heap.size) (fun j h => .inl h) W l o o' hl) (Below.refl _ _) (fun _ => rfl)
    (fun pre W => Ss (fun j => own j = 6) W p.ss (freeTo a.st pre) ∧ Upd (fun j => w1.heap.size ≤ j ∨ own j = 6) w1 W)
    (fun _ _ _ => False)
    (fun pre X Y row hs hg hr => ⟨hs.1.grown hg (fun r e => (hr r e).2), upd_grown hs.2 hg (fun r e => .inl (hr r e).1)⟩)
    (fun _ _ _ _ _ hs _ _ => hs)
    ⟨HA.out.ss, Upd.refl _ _⟩
    (fun x => { tmps := #[ptr c, .pointer (some ⟨w.heap.size, 0, none⟩), .int .i64 (x : Int), ptr c, ptr c, .pointer (some ⟨c, 19, none⟩), ptr p.ss, .func (.func 187) #[] #[.pointer (some ⟨Bs, 0, none⟩), .pointer (some ⟨Bt, 0, none⟩)], .int .i64 (x : Int), undef, undef, undef, undef, undef, undef], defers := [] }) ?assign ?body ?done ?stop
  case assign =>
    intro l x W K hK
    gi_wp2
    simpa using hK
  case body =>
    rintro l pre x W ⟨hv, hu⟩ hlt
    have hb := hu.block _ (lt_of_block bO) (hS.out _ (hfar.out _ (Nat.le_refl _)) (lt_of_block bO)) |>.trans bO
    have hc1 : W.cell? ⟨w.heap.size, 0, none⟩ = some (ptr c) := cell_of_block hb 0
    have hstr := (hu.block c HA.out.clt (hS.out _ (by rw [HA.out.oc]; decide) HA.out.clt)).trans HA.out.str
    have hc2 : W.cell? ⟨c, 19, none⟩ = some (ptr p.ss) := cell_of_block hstr 19
    have htu := HA.out.tur.keep hu (hS.out _ (by rw [HA.out.ot]; decide) HA.out.tur.lt)
    obtain ⟨S0, h0, hs0, hcs0⟩ := hv.exact
    have HT := Lib.hid (And.intro (sturn h0 htu (x : Int) 0) (And.intro hu (And.intro hs0 hcs0)))
    clear hv hu hb hstr htu h0 hs0 hcs0
    gi_wp2_with ((first | (refine ⟨trivial, fun _ => by omega, ?_⟩) | (refine ⟨trivial, ?_⟩) | skip); gi_at_call 182; refine (CallsIn.inRound l (callsIn_wide.2 HT.out.1)).mono ?_; rintro e W2 ⟨rfl, hs2, hu2⟩)
    obtain ⟨hT, hu, hs0, hcs0⟩ := HT.out
    refine ⟨keepsOthers_cells hu2 (fun j hj _ => hcs0 j hj), hu2.mono (fun k _ hk => .inr (hs0 k hk)), ?_, hu.trans (hu2.mono (fun k _ hk => .inr (hs0 k hk)))⟩
    rw [freeTo_snoc]
    exact (Ss.thing _ _).out hs2 (fun j _ hj => hs0 j hj)
  case done =>
    rintro D ys W hD rfl ⟨hv, hu⟩ hK
    gi_wp2
    refine ⟨by simp, .inl ⟨_, _, rfl, run_takeDeferred hK, ?_⟩⟩
    refine ⟨_, results_none rfl _ _ _, ?_⟩
    have hW := supd_b (S := fun j => w1.heap.size ≤ j ∨ own j = 6) (M := w1.heap.size) (fun j h => .inl h) W D _ (.deferred none) hD hK rfl rfl
    have hv2 := hv.grown (grownBy_putObj' W D (.deferred none)) (fun r e => by cases e; exact ⟨_, hK, rfl⟩)
    have hu2 : Upd (fun j => own j = 6 ∨ w.heap.size ≤ j) w (W.putObj D (.deferred none)) := (hu1.mono (fun _ _ h => h.elim)).new (hu.trans hW) (fun i hi hs => by rcases hs with hs | hs; omega; exact .inl hs)
    have hsz2 := hu2.size
    exact ⟨rfl, _, HC.out.1.turn6 hu2 ((Ss.thing _ _).out hv2 (fun j _ hj => .inl hj)) (freeTo_len _ _), HC.out.1.did6 hu2⟩
  case stop =>
    rintro D c pre W _ _ h _
    exact h.elim
end
end Go.Proofs.YtnadilfobmgebaaGreatDoor
namespace Go.Proofs.YtnadilfobmgebaaGreatDoor
open Go Go.RowKit
def TellPostC (W : World) (m : Nat) (xs : List Int) (e : Ending) (W' : World) : Prop := ∃ g c, e = .returned (.slice (some ⟨g, 0, none⟩) m c) ∧ m ≤ c ∧ c ≤ maxLen ∧ W'.rangeAt g 0 (ints xs) ∧ Below W.heap.size W W'
def numL (sz : List Nat) (xs : List Int) : List (Nat × Nat) := (xs.map Int.toNat).zip sz
theorem numL_len {sz : List Nat} {xs : List Int} (h : xs.length = sz.length) : (numL sz xs).length = sz.length := by simp [numL, h]
theorem numL_szs {sz : List Nat} {xs : List Int} (h : xs.length = sz.length) : sizesL (numL sz xs) = natsI sz := by
  unfold sizesL natsI numL
  rw [show (fun (p : Nat × Nat) => (p.2 : Int)) = (fun (n : Nat) => (n : Int)) ∘ Prod.snd from rfl, ← List.map_map, List.map_snd_zip (by simp [h])]
theorem numL_sizes {sz : List Nat} {xs : List Int} (h : xs.length = sz.length) : sizes (numL sz xs) = sz.sum := by
  unfold sizes numL
  rw [List.map_snd_zip (by simp [h])]
theorem numL_nums {sz : List Nat} {xs : List Int} (h : xs.length = sz.length) (h0 : ∀ x ∈ xs, 0 ≤ x) : numsL (numL sz xs) = xs := by
  unfold numsL numL
  rw [show (fun (p : Nat × Nat) => (p.1 : Int)) = (fun (n : Nat) => (n : Int)) ∘ Prod.fst from rfl, ← List.map_map, List.map_fst_zip (by simp [h]), List.map_map]
  conv => rhs; rw [← List.map_id xs]
  exact List.map_congr_left (fun x hx => by simp [Int.toNat_of_nonneg (h0 x hx)])
theorem numL_fits {sz : List Nat} {xs : List Int} (h : xs.length = sz.length) (hs : sz.sum ≤ 59) (hz : ∀ s ∈ sz, 1 ≤ s ∧ s ≤ 7) (hb : ∀ i (h1 : i < xs.length) (h2 : i < sz.length), 0 ≤ xs[i] ∧ xs[i] < 256 ^ sz[i]) : Fits (numL sz xs) := by
  refine ⟨fun p hp => ?_, by rw [numL_sizes h]; exact hs⟩
  obtain ⟨i, hi, rfl⟩ := List.getElem_of_mem hp
  rw [numL_len h] at hi
  have h1 : i < xs.length := by omega
  have := hb i h1 hi
  simp only [numL, List.getElem_zip, List.getElem_map]
  have h3 := hz sz[i] (List.getElem_mem hi)
  refine ⟨?_, h3.1, h3.2⟩
  have h4 : ((256 ^ sz[i] : Nat) : Int) = (256 : Int) ^ sz[i] := by simp
  omega
structure Ent where
  b : Nat
  s : Nat
  d : Bool
  m : Nat
def Ent.none : Ent := ⟨0, 0, false, 0⟩
def bitN (d : Bool) : Nat := if d then 1 else 0
def entC (x : Ent) : List Value := [.int .i64 (x.b : Int), .int .i64 (x.s : Int), .bool x.d, .int .i64 (x.m : Int)]
def entN (x : Ent) : List Nat := [x.b, x.s, bitN x.d, x.m]
def pgC (seq no of many : Nat) (E : List Ent) : List Value := [.int .i64 (seq : Int), .int .i64 (no : Int), .int .i64 (of : Int), .int .i64 (many : Int)] ++ E.flatMap entC
def pgN (seq no of many : Nat) (E : List Ent) : List Nat := [seq, no, of, many] ++ E.flatMap entN
theorem entC_len (x : Ent) : (entC x).length = 4 := rfl
theorem ents_len (E : List Ent) : (E.flatMap entC).length = E.length * 4 := length_flat (f := entC) (fun _ => rfl) E
theorem ents_at {E : List Ent} {i : Nat} (hi : i < E.length) : ((E.flatMap entC).drop (i * 4)).take 4 = entC (E.getD i Ent.none) := by
  induction E generalizing i with
  | nil => simp at hi
  | cons x E ih =>
    cases i with
    | zero => rfl
    | succ i =>
      rw [List.flatMap_cons, show (i + 1) * 4 = (entC x).length + i * 4 by rw [entC_len]; omega, List.drop_length_add_append]
      simpa using ih (i := i) (by simpa using hi)
theorem bit_any (d : Bool) (w : World) : Calls Tryz.prog 235 #[.bool d] w fun e w' => e = .returned (.int .i64 (bitN d : Int)) ∧ w = w' := by
  cases d
  all_goals
    go_enter Tryz.func235, Tryz.ntmps235
    go_wp2
    go_ret
    exact ⟨rfl, rfl⟩
theorem infoPg : (Tryz.prog.info? 337).map (·.size) = some 20 := by kernel_rfl
theorem infoEs : (Tryz.prog.info? 335).map (·.size) = some 16 := by kernel_rfl
theorem infoEn : (Tryz.prog.info? 245).map (·.size) = some 4 := by kernel_rfl
theorem run_index_ents {E : List Ent} (hE : E.length = 4) {k : Nat} (hk : k < 4) (w : World) :
    (Instr.index 335 (.agg (E.flatMap entC).toArray) (.int .i64 (k : Int))).run Tryz.prog w = .ok (.agg (entC (E.getD k Ent.none)).toArray) w := by
  have hu := Tryz.underlying245
  obtain ⟨i, hi, hs⟩ := Option.map_eq_some_iff.1 infoEn
  have hz : (Array.extract (E.flatMap entC).toArray (k * 4) (k * 4 + 4)) = (entC (E.getD k Ent.none)).toArray := by
    apply Array.toList_inj.1
    rw [Array.toList_extract]
    simp only [List.extract]
    rw [show k * 4 + 4 - k * 4 = 4 by omega]
    exact ents_at (by omega)
  have hz2 := ents_at (E := E) (i := k) (by omega)
  simp [Instr.index, asIntOf, run_underlying Tryz.underlying335, sizeOf, typeInfo, hi, hs, part, isAgg, run_underlying hu, hk, hz2]
theorem infoIn1 : (Tryz.prog.info? 3).map (fun i => (i.zero, i.size, i.bytes)) = some (some (.int .i64 0), 1, 8) := by kernel_rfl
set_option maxRecDepth 100000 in
set_option maxHeartbeats 2000000 in
theorem tellP {w : World} (seq no of many : Nat) (E : List Ent) (hE : E.length = 4) :
    Calls Tryz.prog 255 #[.agg (pgC seq no of many E).toArray] w (TellPostC w 20 (natsI (pgN seq no of many E))) := by
  obtain ⟨i0, hi, hz0, hz1, hz2⟩ := info_parts infoIn1
  obtain ⟨L, hL⟩ : ∃ L, L = (pgC seq no of many E).toArray := ⟨_, rfl⟩
  have hg := heap_alloc_last w (.cells L 337) rfl
  have k0 : (w.alloc (.cells L 337)).cell? ⟨w.heap.size, 0, none⟩ = some (.int .i64 (seq : Int)) := (cell_of_block hg 0).trans (by rw [hL]; rfl)
  have k1 : (w.alloc (.cells L 337)).cell? ⟨w.heap.size, 1, none⟩ = some (.int .i64 (no : Int)) := (cell_of_block hg 1).trans (by rw [hL]; rfl)
  have k2 : (w.alloc (.cells L 337)).cell? ⟨w.heap.size, 2, none⟩ = some (.int .i64 (of : Int)) := (cell_of_block hg 2).trans (by rw [hL]; rfl)
  have k3 : (w.alloc (.cells L 337)).cell? ⟨w.heap.size, 3, none⟩ = some (.int .i64 (many : Int)) := (cell_of_block hg 3).trans (by rw [hL]; rfl)
  have hr : (w.alloc (.cells L 337)).rangeAt w.heap.size 4 (E.flatMap entC) := fun j v hv => by
    rw [cell_of_block hg, hL, List.getElem?_toArray, pgC, List.getElem?_append_right (by simp)]
    rw [← hv]; congr 1; simp
  have hsz : (Tryz.prog.info? 335).map (·.size) = some (E.flatMap entC).length := by rw [ents_len, hE]; exact infoEs
  have hix := fun (k : Nat) (hk : k < 4) (w : World) => run_index_ents hE hk w
  have HI := Lib.hid (And.intro hix hE)
  rw [← hL]
  have hR := World.rangeAt_alloc hr (.cells #[.int .i64 (seq : Int), .int .i64 (no : Int), .int .i64 (of : Int), .int .i64 (many : Int)] 3)
  have HL := Lib.hid hL
  clear hL hix hE hg hr
  go_enter Tryz.func255, Tryz.ntmps255
  go_wp2_with (first
    | refine wpList_load_mid rfl _ _ rfl _ _ rfl _ _ hR Tryz.underlying335 rfl hsz ?_
    | fail)
  have hrow : (w.alloc (.cells L 337)).alloc (.cells #[.int .i64 (seq : Int), .int .i64 (no : Int), .int .i64 (of : Int), .int .i64 (many : Int)] 3) = (w.alloc (.cells L 337)).alloc (.cells #[.int .i64 (seq : Int), .int .i64 (no : Int), .int .i64 (of : Int), .int .i64 (many : Int)] 3) := rfl
  have hown : ((w.alloc (.cells L 337)).alloc (.cells #[.int .i64 (seq : Int), .int .i64 (no : Int), .int .i64 (of : Int), .int .i64 (many : Int)] 3)).ownsRow w.heap.size 3 1 (.slice (some ⟨w.heap.size + 1, 0, none⟩) 4 4) 4 (ints (natsI ([seq, no, of, many] ++ (E.take 0).flatMap entN))) := by
    refine ⟨by simp [natsI], .inr ⟨w.heap.size + 1, 4, _, rfl, by omega, heap_alloc_last _ _ (by simp), by omega, by unfold maxLen; omega, by simp, by simp [natsI, ints]⟩⟩
  have hB : Below w.heap.size w ((w.alloc (.cells L 337)).alloc (.cells #[.int .i64 (seq : Int), .int .i64 (no : Int), .int .i64 (of : Int), .int .i64 (many : Int)] 3)) := ((Below.refl _ w).alloc (Nat.le_refl _) _).alloc (by simp) _
  generalize (w.alloc (.cells L 337)).alloc (.cells #[.int .i64 (seq : Int), .int .i64 (no : Int), .int .i64 (of : Int), .int .i64 (many : Int)] 3) = w2 at *
  have HO := Lib.hid (And.intro hown hB)
  clear hown hB hR hsz k0 k1 k2 k3 hrow
  go_loopw [3, 17] (fun s3 s17 wr => ∃ k : Nat, k ≤ 4 ∧ s17 = .int .i64 k ∧ wr.ownsRow w.heap.size 3 1 s3 (4 + 4 * k) (ints (natsI ([seq, no, of, many] ++ (E.take k).flatMap entN))) ∧ Below w.heap.size w wr) (fun _ s17 _ => 4 - (intOf s17).toNat)
  case atStart => exact ⟨0, by omega, rfl, HO.out.1, HO.out.2⟩
  case round =>
    obtain ⟨k, hk, rfl, hown, hb⟩ := hrel
    by_cases hlt : k < 4
    · have hEk := HI.out.1 k hlt
      have hts : Hid ((E.take (k + 1)).flatMap entN = (E.take k).flatMap entN ++ entN (E.getD k Ent.none)) := by
        show _ = _
        have hk2 : k < E.length := by have := HI.out.2; omega
        rw [List.take_succ_eq_append_getElem hk2, List.flatMap_append]
        simp [List.getD_eq_getElem?_getD, hk2]
      generalize E.getD k Ent.none = x at *
      obtain ⟨xb, xs, xd, xm⟩ := x
      have hXL : Hid ((entC ⟨xb, xs, xd, xm⟩).toArray = #[Value.int .i64 (xb : Int), .int .i64 (xs : Int), .bool xd, .int .i64 (xm : Int)]) := rfl
      rw [hXL.out] at hEk
      have b1 : (0 : Int) ≤ (k : Int) := by omega
      have b2 : (k : Int) < 4 := by omega
      have hO := Lib.hid (And.intro hown hb)
      have hg3 := heap_alloc_last wr (.cells #[Value.int .i64 (xb : Int), .int .i64 (xs : Int), .bool xd, .int .i64 (xm : Int)] 245) rfl
      have hown3 := hO.out.1.alloc (.cells #[Value.int .i64 (xb : Int), .int .i64 (xs : Int), .bool xd, .int .i64 (xm : Int)] 245)
      have hb3 := hO.out.2.alloc hO.out.2.size (.cells #[Value.int .i64 (xb : Int), .int .i64 (xs : Int), .bool xd, .int .i64 (xm : Int)] 245)
      have hnm : ¬ u3.ownBlock = some wr.heap.size := fun e => by have := (hO.out.1.lt _ e).2; omega
      clear hown hb
      go_wp2
      generalize wr.alloc (.cells #[Value.int .i64 (xb : Int), .int .i64 (xs : Int), .bool xd, .int .i64 (xm : Int)] 245) = w3 at *
      generalize wr.heap.size = m at *
      have k0 : w3.cell? ⟨m, 0, none⟩ = some (.int .i64 (xb : Int)) := cell_of_block hg3 0
      have k1 : w3.cell? ⟨m, 1, none⟩ = some (.int .i64 (xs : Int)) := cell_of_block hg3 1
      have k2 : w3.cell? ⟨m, 2, none⟩ = some (.bool xd) := cell_of_block hg3 2
      have k3 : w3.cell? ⟨m, 3, none⟩ = some (.int .i64 (xm : Int)) := cell_of_block hg3 3
      have hownA := (hown3.alloc (.cells #[Value.int .i64 (xb : Int), .int .i64 (xs : Int), .int .i64 (bitN xd : Int), .int .i64 (xm : Int)] 3)).drew
      have hbA : Below w.heap.size w (w3.alloc (.cells #[Value.int .i64 (xb : Int), .int .i64 (xs : Int), .int .i64 (bitN xd : Int), .int .i64 (xm : Int)] 3)).drew := below_drewN (hb3.alloc hb3.size _) 1
      have hgA : (w3.alloc (.cells #[Value.int .i64 (xb : Int), .int .i64 (xs : Int), .int .i64 (bitN xd : Int), .int .i64 (xm : Int)] 3)).drew.heap[w3.heap.size]? = _ := heap_alloc_last w3 (.cells #[Value.int .i64 (xb : Int), .int .i64 (xs : Int), .int .i64 (bitN xd : Int), .int .i64 (xm : Int)] 3) rfl
      obtain ⟨v', w1, hrun, ho1, hgr, -⟩ := run_append_own (P := Tryz.prog) (w := (w3.alloc (.cells #[Value.int .i64 (xb : Int), .int .i64 (xs : Int), .int .i64 (bitN xd : Int), .int .i64 (xm : Int)] 3)).drew) w.heap.size 100 100 3 i0 (.int .i64 0) 1 8 Tryz.underlying100 hi hz0 hz1 hz2 rfl (by decide) u3 (4 + 4 * k) _ hownA ⟨w3.heap.size, 0, none⟩ 4 4 [.int .i64 (xb : Int), .int .i64 (xs : Int), .int .i64 (bitN xd : Int), .int .i64 (xm : Int)] rfl
        (fun j u hj => by rw [Addr.add_lit, cell_of_block hgA]; simpa using hj) (by intro u hu; simp at hu; rcases hu with rfl | rfl | rfl | rfl <;> rfl) (by unfold maxLen; omega) (by omega) hbA.size
      have hb1 : Below w.heap.size w w1 := below_upd hbA (Upd.of_grown (S := fun j => w.heap.size ≤ j) hgr (fun g hg _ => (hownA.lt g hg).1)) (Nat.le_refl _) (fun k h => h)
      have hgu : Upd (fun j => u3.ownBlock = some j) _ w1 := Upd.of_grown (S := fun j => u3.ownBlock = some j) hgr (fun g hg _ => hg)
      have q0 := hgu.cellv (w := (w3.alloc (.cells #[Value.int .i64 (xb : Int), .int .i64 (xs : Int), .int .i64 (bitN xd : Int), .int .i64 (xm : Int)] 3)).drew) (cell_keep_alloc k0 _) hnm
      have q1 := hgu.cellv (w := (w3.alloc (.cells #[Value.int .i64 (xb : Int), .int .i64 (xs : Int), .int .i64 (bitN xd : Int), .int .i64 (xm : Int)] 3)).drew) (cell_keep_alloc k1 _) hnm
      have q2 := hgu.cellv (w := (w3.alloc (.cells #[Value.int .i64 (xb : Int), .int .i64 (xs : Int), .int .i64 (bitN xd : Int), .int .i64 (xm : Int)] 3)).drew) (cell_keep_alloc k2 _) hnm
      have q3 := hgu.cellv (w := (w3.alloc (.cells #[Value.int .i64 (xb : Int), .int .i64 (xs : Int), .int .i64 (bitN xd : Int), .int .i64 (xm : Int)] 3)).drew) (cell_keep_alloc k3 _) hnm
      have HF := Lib.hid (And.intro ho1 hb1)
      clear hownA hbA hgA ho1 hgr hb1 hown3 hb3 hg3 hEk hgu
      go_region_held3 (fun W => W.cell? ⟨m, 0, none⟩ = some (.int .i64 (xb : Int)) ∧ W.cell? ⟨m, 1, none⟩ = some (.int .i64 (xs : Int)) ∧ W.cell? ⟨m, 2, none⟩ = some (.bool xd) ∧ W.cell? ⟨m, 3, none⟩ = some (.int .i64 (xm : Int)))
        ((go_split_ands; (simp only [World.cell?_drew] at *); ((repeat' constructor) <;> first | assumption | (apply cell_keep_alloc; assumption) | exact trivial)))
        (first | (go_at_call 235; refine (bit_any _ _).mono ?_; rintro e w' ⟨rfl, rfl⟩) | (refine step_append_run rfl _ _ _ rfl rfl rfl hrun ?_))
      go_wp2
      go_roundw
      case rel =>
        refine ⟨k + 1, by omega, by go_num, ?_, HF.out.2⟩
        have := HF.out.1
        rw [hts.out, show 4 + 4 * (k + 1) = 4 + 4 * k + 4 by omega]
        simpa [ints, natsI, entN] using this
      case measure => simp [intOf]; omega
    · obtain rfl : k = 4 := by omega
      have HX := Lib.hid (And.intro hown hb)
      clear hown hb
      go_wp2
      go_ret
      obtain ⟨hown, hb⟩ := HX.out
      rw [List.take_of_length_le (by have := HI.out.2; omega)] at hown
      obtain ⟨hl, ⟨_, h0⟩ | ⟨g, cap, cur, rfl, -, hg, hn, hcm, hs, ht⟩⟩ := hown
      · omega
      · refine ⟨g, cap, rfl, hn, hcm, fun j v hv => ?_, hb⟩
        rw [cell_of_block hg, ← Array.getElem?_toList]
        have hv' : (cur.toList.take ((4 + 4 * 4) * 1))[j]? = some v := by rw [ht]; exact hv
        rw [List.getElem?_take] at hv'
        split at hv'
        · simpa using hv'
        · cases hv'
theorem all_range_eqI : ∀ (xs ys : List Int), xs.length = ys.length → ((List.range xs.length).all fun i => xs.getD i 0 == ys.getD i 0) = (xs == ys)
  | [], [], _ => rfl
  | x :: xs, y :: ys, h => by
    have ih := all_range_eqI xs ys (by simpa using h)
    rw [List.length_cons, List.range_succ_eq_map, List.all_cons, List.all_map]
    simp only [List.getD_cons_zero, Function.comp_def, List.getD_cons_succ, ih]
    simp [List.cons_beq_cons]
  | [], _ :: _, h => by simp at h
  | _ :: _, [], h => by simp at h
section
variable {P : Program} (w : World)
theorem run_equalIn_ints (d : Nat) (t e : TypeId) (n : Nat) (ht : P.underlying t = some (.array n e)) (he : P.underlying e = some (.int .i64)) (hsz : ∀ w, (sizeOf e).run P w = .ok 1 w)
    (xs ys : List Int) (hx : xs.length = n) (hy : ys.length = n) :
    (Op.equalIn (d + 2) t (.agg (ints xs).toArray) (.agg (ints ys).toArray)).run P w = .ok (xs == ys) w := by
  rw [← all_range_eqI xs ys (hx.trans hy.symm), hx, List.range_eq_range', Op.equalIn]
  simp only [Sem.run_bind, run_underlying ht, Result.andThen_ok, hsz, Std.Legacy.Range.forIn_eq_forIn_range', Std.Legacy.Range.size, Nat.sub_zero, Nat.add_sub_cancel, Nat.div_one]
  have hl : ∀ i ∈ List.range' 0 n 1, i < n := fun i hi => by simpa using (List.mem_range'_1.1 hi).2
  generalize List.range' 0 n 1 = l at hl ⊢
  induction l with
  | nil => simp
  | cons i l ih =>
    have hi : i < n := hl i (by simp)
    have px : (part e (ints xs).toArray (i * 1)).run P w = .ok (.int .i64 (xs.getD i 0)) w := by
      simp [ints, part, isAgg, run_underlying he, List.getD, List.getElem?_eq_getElem (show i < xs.length by omega)]
    have py : (part e (ints ys).toArray (i * 1)).run P w = .ok (.int .i64 (ys.getD i 0)) w := by
      simp [ints, part, isAgg, run_underlying he, List.getD, List.getElem?_eq_getElem (show i < ys.length by omega)]
    have pe : (Op.equalIn (d + 1) e (.int .i64 (xs.getD i 0)) (.int .i64 (ys.getD i 0))).run P w = .ok (xs.getD i 0 == ys.getD i 0) w := by
      rw [run_equalIn_int w d e .i64 .i64 _ _ he]
    simp only [List.forIn_cons, Sem.run_bind, px, py, pe, Result.andThen_ok, List.all_cons]
    cases hb : (xs.getD i 0 == ys.getD i 0)
    · simp
    · simp only [Bool.not_true, Bool.false_eq_true, if_false, Sem.run_pure, Result.andThen_ok, Bool.true_and]
      exact ih fun j hj => hl j (by simp [hj])
theorem run_eql_ints (t e : TypeId) (n : Nat) (ht : P.underlying t = some (.array n e)) (he : P.underlying e = some (.int .i64)) (hsz : ∀ w, (sizeOf e).run P w = .ok 1 w)
    (xs ys : List Int) (hx : xs.length = n) (hy : ys.length = n) :
    (binOp .eql t (.agg (ints xs).toArray) (.agg (ints ys).toArray)).run P w = .ok (.bool (xs == ys)) w := by
  rw [run_eql_struct, run_equalIn_ints w 9998 t e n ht he hsz xs ys hx hy]
  rfl
end
end Go.Proofs.YtnadilfobmgebaaGreatDoor
