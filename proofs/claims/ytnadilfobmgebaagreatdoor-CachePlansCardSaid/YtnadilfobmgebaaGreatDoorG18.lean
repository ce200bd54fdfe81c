/- A range over a function whose rounds turn blocks of cells alone; free: all stale slots are free. A cache: Commit. Equality of arrays of ints. Pages: may numbers be a page? Pages: may numbers be a page, the whole. -/
import Derived.Test.YtnadilfobmgebaaGreatDoorG17
import Derived.Test.YtnadilfobmgebaaGreatDoorG10
import Derived.Test.YtnadilfobmgebaaGreatDoorG01
import Derived.Laws.StructEq
import Derived.Test.YtnadilfobmgebaaGreatDoorG12
namespace Go.Proofs.YtnadilfobmgebaaGreatDoor
open Go Go.RowKit Go.Shelf
attribute [local go_sem] Oper.semAt_some
theorem Ss.exact {S : Nat → Prop} {w : World} {b : Nat} {l : List Int} (h : Ss S w b l) : ∃ S0 : Nat → Prop, Ss S0 w b l ∧ (∀ j, S0 j → S j) ∧ ∀ j, S0 j → ∃ cs t z, w.heap[j]? = some (.cells cs t z) := by
  obtain ⟨v, h, hb, hs⟩ := h
  refine ⟨fun j => j = b ∨ v.ownBlock = some j, ⟨v, h, .inl rfl, fun j hj => .inr hj⟩, fun j hj => by rcases hj with rfl | hj; exact hb; exact hs j hj, fun j hj => ?_⟩
  rcases hj with rfl | hj
  · exact ⟨_, _, _, h.str⟩
  · rcases h.sl with ⟨-, ⟨e, -⟩ | ⟨g, off, cap, cur, e, hg, -⟩⟩
    · rw [e] at hj; cases hj
    · rw [e] at hj; cases hj; exact ⟨_, _, _, hg⟩
theorem Ss.grown {S : Nat → Prop} {w w' : World} {b : Nat} {l : List Int} {row : Option Nat} (h : Ss S w b l) (hg : w.grownBy w' row) (hr : ∀ r, row = some r → ∃ o : Obj, w.heap[r]? = some o ∧ o.isCells = false) : Ss S w' b l := by
  obtain ⟨S0, h0, hs, hc⟩ := h.exact
  have := (Ss.thing b l).keep h0 (Upd.of_grown (S := fun j => row = some j) hg (fun g e _ => e)) (fun j hj e => by
    obtain ⟨cs, t, z, hj'⟩ := hc j hj
    exact keep_grown hj' hg hr e)
  exact (Ss.thing b l).out this (fun j _ hj => hs j hj)
theorem Ss.sb {S : Nat → Prop} {w : World} {b : Nat} {l : List Int} (h : Ss S w b l) : S b := by obtain ⟨v, h, hb, hs⟩ := h; exact hb
theorem sturn {S : Nat → Prop} {w : World} {b : Nat} {l : List Int} (h : Ss S w b l) (ht : Tur w) (slot state : Int) :
    Calls Tryz.prog 182 #[ptr b, .int .i64 slot, .int .i64 state] w fun e w' => e = .returned (.int .i64 (turnCode l slot state)) ∧ Ss S w' b (turnList l slot state) ∧ Upd S w w' := by
  obtain ⟨v, h, hb, hs⟩ := h
  exact (turn_any h ht slot state).mono fun _ _ ⟨he, h', hu⟩ => ⟨he, ⟨v, h', hb, hs⟩, hu.mono (fun k _ hk => hs k hk)⟩
theorem turnList_len (l : List Int) (slot state : Int) : (turnList l slot state).length = l.length := by unfold turnList; split <;> simp
def freeTo (l : List Int) (pre : List Nat) : List Int := pre.foldl (fun (l : List Int) (k : Nat) => turnList l (k : Int) 0) l
theorem freeTo_snoc (l : List Int) (pre : List Nat) (x : Nat) : freeTo l (pre ++ [x]) = turnList (freeTo l pre) (x : Int) 0 := by simp [freeTo]
theorem freeTo_len (l : List Int) (pre : List Nat) : (freeTo l pre).length = l.length := by
  induction pre generalizing l with
  | nil => rfl
  | cons x pre ih => exact (ih (turnList l (x : Int) 0)).trans (turnList_len _ _ _)
section
variable {own : Nat → Nat} {w w' : World} {c : Nat} {n : CaN} {p : CaP} {a : CaS}
def FreeOut (own : Nat → Nat) (w : World) (c : Nat) (n : CaN) (p : CaP) (a : CaS) (e : Ending) (w' : World) : Prop := CaOut own w c n p { a with st := freeTo a.st (pos a.st 3) } (.tuple #[]) e w'
set_option maxRecDepth 100000 in
set_option maxHeartbeats 1000000 in
theorem ca_free (h : CaAt own w c n p a) : Calls Tryz.prog 142 #[ptr c] w (FreeOut own w c n p a) := by
  have hu0 : Upd (fun _ => False) w (w.alloc (.cells #[ptr c] 95)) := (Upd.refl _ w).alloc _
  have h1 := h.new hu0
  have bO0 : Boxed (w.alloc (.cells #[ptr c] 95)) w.heap.size 95 (ptr c) := Boxed.new w _ _
  obtain ⟨d0, d1, d2, d3, d4, d5, d6, d7, d8⟩ := h1.cells
  obtain ⟨vs, hss, hsb, hsv⟩ := h1.ss
  have hpos : 0 < a.st.length := by have := h.sl; have := h.ok.s1; omega
  have hA := all_any hss 3 hpos
  have hle := hss.le
  have HC := Lib.hid (And.intro h (And.intro hu0 (And.intro h1 hA)))
  have hz : (w.alloc (.cells #[ptr c] 95)).heap.size = w.heap.size + 1 := by simp
  have hcl := h.clt
  clear h hu0 h1 hA hss hsb hsv d0 d1 d2 d3 d4 d6 d7 d8
  refine (callsIn_wide (n := 3)).1 ?_
  refine callsIn_of_wp_marks Tryz.func142 rfl trivial ?_ rfl
  simp only [Tryz.ntmps142, List.size_toArray, List.length_cons, List.length_nil, Nat.reduceAdd, Nat.reduceSub, Array.replicate_succ, Array.replicate_zero, List.push_toArray, List.append_toArray, List.nil_append, List.cons_append]
  gi_wp2_with (refine ⟨trivial, ?_⟩; gi_at_call 149; refine (callsIn_wide.2 HC.out.2.2.2).mono ?_; rintro e w1 ⟨Bs, Bt, g, off, cap, rfl, hge, hBs, hBt, hg, hcs, hct, hcl, hb1⟩)
  have hsz := hb1.size
  rw [hz] at hsz hge
  have hu1 : Upd (fun _ => False) w w1 := HC.out.2.1.trans (Upd.of_below hb1)
  have hca := HC.out.1.new hu1
  have bO : Boxed w1 w.heap.size 95 (ptr c) := (hb1.block _ (by rw [hz]; omega)).trans bO0
  have hS : Hid (∀ j, ¬ (own j = 6) → j < w1.heap.size → ¬ (w1.heap.size ≤ j ∨ own j = 6)) := fun j h1 h2 h => by rcases h with h | h; omega; exact h1 h
  have hfar : Hid (∀ j, w.heap.size ≤ j → ¬ own j = 6) := fun j hj e => by rw [HC.out.1.far j hj] at e; exact absurd e (by decide)
  have HA := Lib.hid hca
  clear hca
  refine wpIn_rangeFunc_ownF rfl (by omega) (gf := 187) (lb := #[.pointer (some ⟨Bs, 0, none⟩), .pointer (some ⟨Bt, 0, none⟩)]) rfl trivial (enters_of Tryz.func187 (by kernel_rfl) rfl)
    (sit_stops Fence.wide _ trivial rfl (by omega) (fun j => w1.heap.size ≤ j ∨ own j = 6) Bs Bt g off cap a.st 3 w1 hle hg hBt hBs (hS.out _ (hfar.out _ (by omega)) hg) (hS.out _ (hfar.out _ (by omega)) hBt) hcs hct hcl) supd_t (fun W l o o' hl => supd_b (M := w1.heap.size) (fun j h => .inl h) W l o o' hl) (Below.refl _ _) (fun _ => rfl)
    (fun pre W => Ss (fun j => own j = 6) W p.ss (freeTo a.st pre) ∧ Upd (fun j => w1.heap.size ≤ j ∨ own j = 6) w1 W)
    (fun _ _ _ => False)
    (fun pre X Y row hs hg hr => ⟨hs.1.grown hg (fun r e => (hr r e).2), upd_grown hs.2 hg (fun r e => .inl (hr r e).1)⟩)
    (fun _ _ _ _ _ hs _ _ => hs)
    ⟨HA.out.ss, Upd.refl _ _⟩
    (fun x => { tmps := #[ptr c, .pointer (some ⟨w.heap.size, 0, none⟩), .int .i64 (x : Int), ptr c, ptr c, .pointer (some ⟨c, 19, none⟩), ptr p.ss, .func (.func 187) #[] #[.pointer (some ⟨Bs, 0, none⟩), .pointer (some ⟨Bt, 0, none⟩)], .int .i64 (x : Int), undef, undef, undef, undef, undef, undef], defers := [] }) ?assign ?body ?done ?stop
  case assign =>
    intro l x W K hK
    gi_wp2
    simpa using hK
  case body =>
    rintro l pre x W ⟨hv, hu⟩ hlt
    have hb := hu.block _ (lt_of_block bO) (hS.out _ (hfar.out _ (Nat.le_refl _)) (lt_of_block bO)) |>.trans bO
    have hc1 : W.cell? ⟨w.heap.size, 0, none⟩ = some (ptr c) := cell_of_block hb 0
    have hstr := (hu.block c HA.out.clt (hS.out _ (by rw [HA.out.oc]; decide) HA.out.clt)).trans HA.out.str
    have hc2 : W.cell? ⟨c, 19, none⟩ = some (ptr p.ss) := cell_of_block hstr 19
    have htu := HA.out.tur.keep hu (hS.out _ (by rw [HA.out.ot]; decide) HA.out.tur.lt)
    obtain ⟨S0, h0, hs0, hcs0⟩ := hv.exact
    have HT := Lib.hid (And.intro (sturn h0 htu (x : Int) 0) (And.intro hu (And.intro hs0 hcs0)))
    clear hv hu hb hstr htu h0 hs0 hcs0
    gi_wp2_with ((first | (refine ⟨trivial, fun _ => by omega, ?_⟩) | (refine ⟨trivial, ?_⟩) | skip); gi_at_call 182; refine (CallsIn.inRound l (callsIn_wide.2 HT.out.1)).mono ?_; rintro e W2 ⟨rfl, hs2, hu2⟩)
    obtain ⟨hT, hu, hs0, hcs0⟩ := HT.out
    refine ⟨keepsOthers_cells hu2 (fun j hj _ => hcs0 j hj), hu2.mono (fun k _ hk => .inr (hs0 k hk)), ?_, hu.trans (hu2.mono (fun k _ hk => .inr (hs0 k hk)))⟩
    rw [freeTo_snoc]
    exact (Ss.thing _ _).out hs2 (fun j _ hj => hs0 j hj)
  case done =>
    rintro D ys W hD rfl ⟨hv, hu⟩ hK
    gi_wp2
    refine ⟨by simp, .inl ⟨_, _, rfl, run_takeDeferred hK, ?_⟩⟩
    refine ⟨_, results_none rfl _ _ _, ?_⟩
    have hW := supd_b (S := fun j => w1.heap.size ≤ j ∨ own j = 6) (M := w1.heap.size) (fun j h => .inl h) W D _ (.deferred none) hD hK rfl rfl
    have hv2 := hv.grown (grownBy_putObj' W D (.deferred none)) (fun r e => by cases e; exact ⟨_, hK, rfl⟩)
    have hu2 : Upd (fun j => own j = 6 ∨ w.heap.size ≤ j) w (W.putObj D (.deferred none)) := (hu1.mono (fun _ _ h => h.elim)).new (hu.trans hW) (fun i hi hs => by rcases hs with hs | hs; omega; exact .inl hs)
    have hsz2 := hu2.size
    exact ⟨rfl, _, HC.out.1.turn6 hu2 ((Ss.thing _ _).out hv2 (fun j _ hj => .inl hj)) (freeTo_len _ _), HC.out.1.did6 hu2⟩
  case stop =>
    rintro D c pre W _ _ h _
    exact h.elim
end
end Go.Proofs.YtnadilfobmgebaaGreatDoor
namespace Go.Proofs.YtnadilfobmgebaaGreatDoor
open Go Go.RowKit
def CaS.fb (a : CaS) : CaS := a.bdev (flushR a.bF a.bO a.bP)
def CaS.cm (n : CaN) (a : CaS) : CaS := { a.dev (a.com n).1 with W := (a.com n).2 }
def CaS.committed (n : CaN) (a : CaS) : CaS × Int :=
  if (flushR a.bF a.bO a.bP).cd ≠ 0 then (a.fb, (flushR a.bF a.bO a.bP).cd) else if (a.fb.com n).1.cd ≠ 0 then (a.fb.cm n, (a.fb.com n).1.cd) else ({ a.fb.cm n with st := freeTo a.st (pos a.st 3) }, 0)
set_option maxRecDepth 100000 in
theorem ca_ccommit {own : Nat → Nat} {w : World} {c : Nat} {n : CaN} {p : CaP} {a : CaS} (h : CaAt own w c n p a) (h1 : ∀ q ∈ a.W, 1 ≤ q.1) (hO : a.dO.length + a.W.length ≤ 65536) :
    Calls Tryz.prog 88 #[ptr c] w (CaOut own w c n p (a.committed n).1 (.int .i64 (a.committed n).2)) := by
  have HB := Lib.hid (ca_back_flush h)
  obtain ⟨-, d1, -, -, -, -, -, -, -⟩ := h.cells
  have H := Lib.hid (And.intro h1 hO)
  clear h h1 hO
  go_enter Tryz.func88, Tryz.ntmps88
  go_wp2_with fail
  refine HB.out.mono ?_
  rintro e w1 ⟨rfl, own1, h1, hd1⟩
  have hR : a.committed n = a.committed n := rfl
  conv at hR => rhs; unfold CaS.committed
  generalize hcd : (flushR a.bF a.bO a.bP).cd = cd at *
  replace h1 : CaAt own1 w1 c n p a.fb := h1
  obtain ⟨-, -, -, e3, -, -, -, -, -⟩ := h1.cells
  have HC := Lib.hid (ca_commit h1 H.out.1 H.out.2)
  have H1 := Lib.hid (And.intro h1 (And.intro hd1 hR))
  clear h1 hd1 hR HB d1 hcd
  by_cases hc : cd = 0
  · have HZ := Lib.hid hc
    subst hc
    go_wp2_with fail
    refine HC.out.mono ?_
    rintro e w2 ⟨rfl, own2, h2, hd2⟩
    obtain ⟨h1, hd1, hR⟩ := H1.out
    rw [if_neg (by simp)] at hR
    generalize (a.fb.com n).1.cd = cd2 at *
    replace h2 : CaAt own2 w2 c n p (a.fb.cm n) := h2
    have HF := Lib.hid (ca_free h2)
    have H2 := Lib.hid (And.intro h2 (And.intro (hd1.trans hd2) hR))
    clear h1 hd1 hR h2 hd2 e3
    by_cases hc2 : cd2 = 0
    · subst hc2
      go_wp2_with fail
      refine HF.out.mono ?_
      rintro e w3 ⟨rfl, own3, h3, hd3⟩
      obtain ⟨h2, hd2, hR⟩ := H2.out
      rw [if_neg (by simp)] at hR
      have H3 := Lib.hid (And.intro h3 (And.intro (hd2.trans hd3) hR))
      clear h2 hd2 hR h3 hd3
      go_wp2
      go_ret
      obtain ⟨h3, hd3, hR⟩ := H3.out
      rw [hR]
      exact ⟨rfl, own3, h3, hd3⟩
    · have q0 : (cd2 == 0) = false := by simpa using hc2
      go_wp2
      go_ret
      obtain ⟨h2, hd2, hR⟩ := H2.out
      rw [if_pos hc2] at hR
      rw [hR]
      exact ⟨rfl, own2, h2, hd2⟩
  · have q0 : (cd == 0) = false := by simpa using hc
    go_wp2
    go_ret
    obtain ⟨h1, hd1, hR⟩ := H1.out
    rw [if_pos hc] at hR
    rw [hR]
    exact ⟨rfl, own1, h1, hd1⟩
theorem all_range_eqI : ∀ (xs ys : List Int), xs.length = ys.length → ((List.range xs.length).all fun i => xs.getD i 0 == ys.getD i 0) = (xs == ys)
  | [], [], _ => rfl
  | x :: xs, y :: ys, h => by
    have ih := all_range_eqI xs ys (by simpa using h)
    rw [List.length_cons, List.range_succ_eq_map, List.all_cons, List.all_map]
    simp only [List.getD_cons_zero, Function.comp_def, List.getD_cons_succ, ih]
    simp [List.cons_beq_cons]
  | [], _ :: _, h => by simp at h
  | _ :: _, [], h => by simp at h
section
variable {P : Program} (w : World)
theorem run_equalIn_ints (d : Nat) (t e : TypeId) (n : Nat) (ht : P.underlying t = some (.array n e)) (he : P.underlying e = some (.int .i64)) (hsz : ∀ w, (sizeOf e).run P w = .ok 1 w)
    (xs ys : List Int) (hx : xs.length = n) (hy : ys.length = n) :
    (Op.equalIn (d + 2) t (.agg (ints xs).toArray) (.agg (ints ys).toArray)).run P w = .ok (xs == ys) w := by
  rw [← all_range_eqI xs ys (hx.trans hy.symm), hx, List.range_eq_range', Op.equalIn]
  simp only [Sem.run_bind, run_underlying ht, Result.andThen_ok, hsz, Std.Legacy.Range.forIn_eq_forIn_range', Std.Legacy.Range.size, Nat.sub_zero, Nat.add_sub_cancel, Nat.div_one]
  have hl : ∀ i ∈ List.range' 0 n 1, i < n := fun i hi => by simpa using (List.mem_range'_1.1 hi).2
  generalize List.range' 0 n 1 = l at hl ⊢
  induction l with
  | nil => simp
  | cons i l ih =>
    have hi : i < n := hl i (by simp)
    have px : (part e (ints xs).toArray (i * 1)).run P w = .ok (.int .i64 (xs.getD i 0)) w := by
      simp [ints, part, isAgg, run_underlying he, List.getD, List.getElem?_eq_getElem (show i < xs.length by omega)]
    have py : (part e (ints ys).toArray (i * 1)).run P w = .ok (.int .i64 (ys.getD i 0)) w := by
      simp [ints, part, isAgg, run_underlying he, List.getD, List.getElem?_eq_getElem (show i < ys.length by omega)]
    have pe : (Op.equalIn (d + 1) e (.int .i64 (xs.getD i 0)) (.int .i64 (ys.getD i 0))).run P w = .ok (xs.getD i 0 == ys.getD i 0) w := by
      rw [run_equalIn_int w d e .i64 .i64 _ _ he]
    simp only [List.forIn_cons, Sem.run_bind, px, py, pe, Result.andThen_ok, List.all_cons]
    cases hb : (xs.getD i 0 == ys.getD i 0)
    · simp
    · simp only [Bool.not_true, Bool.false_eq_true, if_false, Sem.run_pure, Result.andThen_ok, Bool.true_and]
      exact ih fun j hj => hl j (by simp [hj])
theorem run_eql_ints (t e : TypeId) (n : Nat) (ht : P.underlying t = some (.array n e)) (he : P.underlying e = some (.int .i64)) (hsz : ∀ w, (sizeOf e).run P w = .ok 1 w)
    (xs ys : List Int) (hx : xs.length = n) (hy : ys.length = n) :
    (binOp .eql t (.agg (ints xs).toArray) (.agg (ints ys).toArray)).run P w = .ok (.bool (xs == ys)) w := by
  rw [run_eql_struct, run_equalIn_ints w 9998 t e n ht he hsz xs ys hx hy]
  rfl
end
def rowI (xs : List Int) (i : Nat) : List Int := (xs.drop (4 + 4 * i)).take 4
theorem rowI_len {xs : List Int} (h : xs.length = 20) {i : Nat} (hi : i < 4) : (rowI xs i).length = 4 := by simp [rowI]; omega
def bndE : List (Int × Int) := [(0, 4095), (0, 1023), (0, 1), (0, 4294967295)]
def entB (xs : List Int) (i : Nat) : Bool := if (i : Int) < xs.getD 3 0 then withinB bndE (rowI xs i) else decide (rowI xs i = [0, 0, 0, 0])
def entsB (xs : List Int) : Bool := (List.range 4).all (entB xs)
def bndP : List (Int × Int) := [(0, 1099511627776), (0, 255), (1, 256), (0, 4)]
def mayP (xs : List Int) : Bool := withinB bndP xs && decide (xs.getD 1 0 < xs.getD 2 0) && entsB xs
theorem infoEy : (Tryz.prog.info? 354).map (·.size) = some 4 := by kernel_rfl
theorem ints_one (xs : List Int) : ∀ v ∈ ints xs, v.oneCell' = true := by
  intro v hv
  simp only [ints, List.mem_map] at hv
  obtain ⟨x, -, rfl⟩ := hv
  rfl
set_option maxRecDepth 100000 in
theorem row_any {w : World} {g o c : Nat} {xs : List Int} (hr : w.rangeAt g o (ints xs)) (hx : xs.length = 20) (hc : 20 ≤ c) (hm : c ≤ maxLen) (i : Nat) (hi : i < 4) :
    Calls Tryz.prog 259 #[.slice (some ⟨g, o, none⟩) 20 c, .int .i64 (i : Int)] w fun e w' => e = .returned (.agg (ints (rowI xs i)).toArray) ∧ Below w.heap.size w w' := by
  have hr2 : w.rangeAt g (o + (4 + 4 * i)) (ints (rowI xs i)) := fun j v hv => by
    have hj := (List.getElem?_eq_some_iff.1 hv).1
    rw [ints, List.length_map, rowI_len hx hi] at hj
    rw [Nat.add_assoc]
    refine hr _ v ?_
    rw [← hv, ints, ints, List.getElem?_map, List.getElem?_map, rowI, List.getElem?_take, if_pos hj, List.getElem?_drop]
  have hl : (ints (rowI xs i)).length = 4 := by rw [ints, List.length_map, rowI_len hx hi]
  have hsz : (Tryz.prog.info? 354).map (·.size) = some (ints (rowI xs i)).length := by rw [hl]; exact infoEy
  have h1 := ints_one (rowI xs i)
  have hat := fun (w : World) (a : Option Addr) (cc : Nat) => run_arrayAt (P := Tryz.prog) w 354 3 4 a (8 + 4 * i - (4 + 4 * i)) cc Tryz.underlying354 (by omega)
  unfold maxLen at hm
  have b1 : (i : Int) < 4 := by omega
  have b2 : (0 : Int) ≤ (i : Int) := by omega
  have b3 : (4 : Int) + 4 * (i : Int) ≤ 8 + 4 * (i : Int) := by omega
  have b4 : (8 : Int) + 4 * (i : Int) ≤ (c : Int) := by omega
  have e1 : ((4 : Int) + 4 * (i : Int)).toNat = 4 + 4 * i := by omega
  have e2 : ((8 : Int) + 4 * (i : Int)).toNat = 8 + 4 * i := by omega
  have hne : ¬ c = 4 + 4 * i := by omega
  have hrA := World.rangeAt_alloc hr2 (.cells #[.int .i64 0, .int .i64 0, .int .i64 0, .int .i64 0] 354)
  generalize ints (rowI xs i) = L at *
  have H := Lib.hid (And.intro hl (And.intro hsz h1))
  clear hr hx hl h1 hr2 hsz
  go_enter Tryz.func259, Tryz.ntmps259
  go_wp2_with (first
    | refine wpList_load_mid rfl _ _ rfl _ _ rfl _ _ hrA Tryz.underlying354 rfl H.out.2.1 ?_
    | (refine wpList_store_new rfl _ _ _ rfl _ _ _ rfl rfl (by rw [H.out.1]; rfl) H.out.2.1 H.out.2.2 ?_)
    | fail)
  exact bodyPost_ret (results_mid1 rfl _ _ w.heap.size 0 L _ rfl (range_of_block (heap_alloc_last w _ rfl)) Tryz.underlying354 rfl H.out.2.1) rfl ⟨rfl, (Below.refl _ w).alloc (Nat.le_refl _) _⟩
set_option maxRecDepth 100000 in
set_option maxHeartbeats 2000000 in
theorem ents_any {w : World} {g o c : Nat} {xs : List Int} (hr : w.rangeAt g o (ints xs)) (hx : xs.length = 20) (hc : 20 ≤ c) (hm : c ≤ maxLen) :
    Calls Tryz.prog 257 #[.slice (some ⟨g, o, none⟩) 20 c] w fun e w' => e = .returned (.bool (entsB xs)) ∧ Below w.heap.size w w' := by
  have hgl : g < w.heap.size := World.block_lt_of_cell? w _ (ints_range hr (i := 0) (by omega))
  have H := Lib.hid (And.intro hr (And.intro hx (And.intro hc hm)))
  clear hr hx hc hm
  go_enter Tryz.func257, Tryz.ntmps257
  go_wp2
  go_step3
  go_wp2_with fail
  refine (within_ok).mono ?_
  rintro e w1 ⟨rfl, rfl⟩
  have hrb : (w.alloc (.cells (bndC bndE).toArray 202)).rangeAt w.heap.size 0 (bndC bndE) := range_of_block (heap_alloc_last w _ rfl)
  have hz1 : (w.alloc (.cells (bndC bndE).toArray 202)).heap.size = w.heap.size + 1 := by simp
  have hBnd : Bnd ((w.alloc (.cells #[.int .i64 0, .int .i64 4095, .int .i64 0, .int .i64 1023, .int .i64 0, .int .i64 1, .int .i64 0, .int .i64 4294967295] 202)).alloc (.cells #[.slice (some ⟨w.heap.size, 0, none⟩) 4 4] 265)) (.func (.func 168) #[] #[.pointer (some ⟨w.heap.size + 1, 0, none⟩)]) bndE := by
    have := Bnd.made (c := 4) hrb
    rw [hz1] at this
    exact this
  have hb2 : Below w.heap.size w ((w.alloc (.cells #[.int .i64 0, .int .i64 4095, .int .i64 0, .int .i64 1023, .int .i64 0, .int .i64 1, .int .i64 0, .int .i64 4294967295] 202)).alloc (.cells #[.slice (some ⟨w.heap.size, 0, none⟩) 4 4] 265)) := ((Below.refl _ w).alloc (Nat.le_refl _) _).alloc (by simp) _
  clear hrb hz1
  go_wp2
  go_step3
  go_wp2
  generalize (w.alloc (.cells #[.int .i64 0, .int .i64 4095, .int .i64 0, .int .i64 1023, .int .i64 0, .int .i64 1, .int .i64 0, .int .i64 4294967295] 202)).alloc (.cells #[.slice (some ⟨w.heap.size, 0, none⟩) 4 4] 265) = w2 at *
  have HB := Lib.hid (And.intro hBnd hb2)
  clear hBnd hb2
  go_loopw [4, 13] (fun s4 s13 wr => ∃ k : Nat, k ≤ 4 ∧ s13 = .int .i64 k ∧ s4 = .bool true ∧ (List.range k).all (entB xs) = true ∧ Below w.heap.size w wr ∧ Bnd wr (.func (.func 168) #[] #[.pointer (some ⟨w.heap.size + 1, 0, none⟩)]) bndE) (fun _ s13 _ => 4 - (intOf s13).toNat)
  case atStart => exact ⟨0, by omega, rfl, rfl, by simp, HB.out.2, HB.out.1⟩
  case round =>
    obtain ⟨k, hk, rfl, rfl, hall, hb, hBn⟩ := hrel
    have HA := Lib.hid (And.intro hall (And.intro hb hBn))
    by_cases hlt : k < 4
    · have hnext : Hid (∀ b, entB xs k = b → (List.range (k + 1)).all (entB xs) = b) := fun b hb => by
        rw [List.range_succ, List.all_append, HA.out.1]; simp [hb]
      have hstop : Hid (entB xs k = false → entsB xs = false) := fun hb => by
        unfold entsB
        rw [← Bool.not_eq_true]
        intro e
        rw [List.all_eq_true] at e
        have := e k (by simp; omega)
        rw [hb] at this; cases this
      have hxl := H.out.2.1
      obtain ⟨x3, hx3⟩ : ∃ x3, xs.getD 3 0 = x3 := ⟨_, rfl⟩
      have c3 : wr.cell? ⟨g, o + 3, none⟩ = some (.int .i64 x3) := by
        have := ints_range (Below.range hb H.out.1) (i := 3) (by omega)
        rw [this, ← hx3]
        simp [List.getD_eq_getElem?_getD, show 3 < xs.length by omega]
      have b1 : (0 : Int) ≤ (k : Int) := by omega
      have b2 : (k : Int) < 4 := by omega
      have hcc := H.out.2.2.1
      have hcm := H.out.2.2.2
      unfold maxLen at hcm
      have hrl : Hid ((rowI xs k).length = 4) := rowI_len hxl hlt
      have hsz : (Tryz.prog.info? 354).map (·.size) = some (ints (rowI xs k)).length := by rw [ints, List.length_map, hrl.out]; exact infoEy
      have h1 := ints_one (rowI xs k)
      have hRow := Lib.hid (row_any (Below.range hb H.out.1) hxl hcc H.out.2.2.2 k hlt)
      have HS := Lib.hid (And.intro hsz h1)
      have hent : Hid (entB xs k = if (k : Int) < x3 then withinB bndE (rowI xs k) else decide (rowI xs k = [0, 0, 0, 0])) := by show _ = _; rw [entB, hx3]
      clear hx3 hall hb hBn hxl hsz h1
      by_cases h3 : (k : Int) < x3
      · have q3 : decide ((k : Int) < x3) = true := by simpa using h3
        have hent2 : Hid (entB xs k = withinB bndE (rowI xs k)) := by show _ = _; rw [hent.out, if_pos h3]
        clear hent h3
        obtain ⟨bb, hbb⟩ : ∃ bb, withinB bndE (rowI xs k) = bb := ⟨_, rfl⟩
        have HBB := Lib.hid hbb
        cases bb
        all_goals
          clear hbb
          go_wp2_with fail
          refine hRow.out.mono ?_
          rintro e wa ⟨rfl, hba⟩
          have hra : (wa.alloc (.cells (ints (rowI xs k)).toArray 354)).rangeAt wa.heap.size 0 (ints (rowI xs k)) := range_of_block (heap_alloc_last wa _ rfl)
          have hua : Upd (fun _ => False) wr (wa.alloc (.cells (ints (rowI xs k)).toArray 354)) := (Upd.of_below hba).alloc _
          have hBa := HA.out.2.2.below (Upd.below hua)
          have c3a := hua.cellv c3 (fun h => h)
          have hbw : Below w.heap.size w (wa.alloc (.cells (ints (rowI xs k)).toArray 354)) := HA.out.2.1.trans ((Upd.below hua).mono HA.out.2.1.size)
          have HW := Lib.hid (And.intro hra (And.intro hBa hbw))
          clear hra hua hBa hbw hba
          go_wp2_with (first
            | (refine wpList_store_new rfl _ _ _ rfl _ _ _ rfl rfl (by rw [ints, List.length_map, hrl.out]; rfl) HS.out.1 HS.out.2 ?_)
            | fail)
          obtain ⟨gB, hB', cB, hvB, hcB, hrB⟩ := HW.out.2.1
          injection hvB with _ _ hvB
          injection hvB with hvB
          injection hvB with hvB
          injection hvB with hvB
          injection hvB with hvB
          injection hvB with hvB
          subst hvB
          refine (within_any bndE (rowI xs k) hcB hrB HW.out.1 hrl.out (by show 4 ≤ 4; decide) (by decide)).mono ?_
          rw [HBB.out]
          rintro e wb ⟨rfl, hbb⟩
          have hbw : Below w.heap.size w wb := HW.out.2.2.trans (hbb.mono HW.out.2.2.size)
          have hBb := HW.out.2.1.below hbb
          have HV := Lib.hid (And.intro hbw hBb)
          clear hbw hBb hbb hcB hrB
          go_wp2
        · rw [Exit.noGoto_ret]
          go_ret
          exact ⟨by rw [hstop.out (by rw [hent2.out, HBB.out])]; rfl, HV.out.1⟩
        · go_roundw
          case rel => exact ⟨k + 1, by omega, by go_num, rfl, hnext.out true (by rw [hent2.out, HBB.out]), HV.out.1, HV.out.2⟩
          case measure => simp [intOf]; omega
      · have q3 : decide ((k : Int) < x3) = false := by simpa using h3
        have hent2 : Hid (entB xs k = (rowI xs k == [0, 0, 0, 0])) := by show _ = _; rw [hent.out, if_neg h3]; exact (Bool.beq_eq_decide_eq _ _).symm
        clear hent h3
        obtain ⟨bb, hbb⟩ : ∃ bb, (rowI xs k == [0, 0, 0, 0]) = bb := ⟨_, rfl⟩
        have HBB := Lib.hid hbb
        have heq : ∀ w, (binOp .eql 354 (.agg (ints (rowI xs k)).toArray) (.agg #[.int .i64 0, .int .i64 0, .int .i64 0, .int .i64 0])).run Tryz.prog w = .ok (.bool bb) w := fun w => by
          obtain ⟨i, hi, hs⟩ := Option.map_eq_some_iff.1 infoIn1
          simp only [Prod.mk.injEq] at hs
          rw [← hbb]
          exact run_eql_ints w 354 3 4 Tryz.underlying354 Tryz.underlying3 (fun w => by simp [sizeOf, typeInfo, hi, hs.2.1]) (rowI xs k) [0, 0, 0, 0] hrl.out rfl
        cases bb
        all_goals
          clear hbb
          go_wp2_with fail
          refine hRow.out.mono ?_
          rintro e wa ⟨rfl, hba⟩
          have hra : (wa.alloc (.cells (ints (rowI xs k)).toArray 354)).rangeAt wa.heap.size 0 (ints (rowI xs k)) := range_of_block (heap_alloc_last wa _ rfl)
          have hua : Upd (fun _ => False) wr (wa.alloc (.cells (ints (rowI xs k)).toArray 354)) := (Upd.of_below hba).alloc _
          have hBa := HA.out.2.2.below (Upd.below hua)
          have c3a := hua.cellv c3 (fun h => h)
          have hbw : Below w.heap.size w (wa.alloc (.cells (ints (rowI xs k)).toArray 354)) := HA.out.2.1.trans ((Upd.below hua).mono HA.out.2.1.size)
          have HW := Lib.hid (And.intro hra (And.intro hBa hbw))
          clear hua hBa hbw hba
          go_wp2_with (first
            | (refine wpList_store_new rfl _ _ _ rfl _ _ _ rfl rfl (by rw [ints, List.length_map, hrl.out]; rfl) HS.out.1 HS.out.2 ?_)
            | (refine wpList_load_mid rfl _ _ rfl _ _ rfl _ _ hra Tryz.underlying354 rfl HS.out.1 ?_)
            | fail)
        · rw [Exit.noGoto_ret]
          go_ret
          exact ⟨by rw [hstop.out (by rw [hent2.out, HBB.out])]; rfl, HW.out.2.2⟩
        · go_roundw
          case rel => exact ⟨k + 1, by omega, by go_num, rfl, hnext.out true (by rw [hent2.out, HBB.out]), HW.out.2.2, HW.out.2.1⟩
          case measure => simp [intOf]; omega
    · obtain rfl : k = 4 := by omega
      have hE : Hid (entsB xs = true) := hall
      have HZ := Lib.hid hb
      clear hall hb hBn
      go_wp2
      rw [Exit.noGoto_ret]
      go_ret
      exact ⟨by rw [hE.out]; rfl, HZ.out⟩
set_option maxRecDepth 100000 in
set_option maxHeartbeats 2000000 in
theorem mayP_any {w : World} {gl ol cl gt : Nat} {v : Value} (xs : List Int) (hxl : xs.length = 20) (hcl : 20 ≤ cl) (hcm : cl ≤ maxLen) (hv : w.cell? ⟨gt, 0, none⟩ = some v) (hB : Bnd w v bndP) (hx : w.rangeAt gl ol (ints xs)) :
    Calls Tryz.prog 256 #[.slice (some ⟨gl, ol, none⟩) 20 cl, .pointer (some ⟨gt, 0, none⟩)] w fun e w' => e = .returned (.bool (mayP xs)) ∧ Below w.heap.size w w' := by
  obtain ⟨g, h, cc, rfl, hc, hr⟩ := hB
  obtain ⟨x1, hx1⟩ : ∃ x1, xs.getD 1 0 = x1 := ⟨_, rfl⟩
  obtain ⟨x2, hx2⟩ : ∃ x2, xs.getD 2 0 = x2 := ⟨_, rfl⟩
  have c1 : w.cell? ⟨gl, ol + 1, none⟩ = some (.int .i64 x1) := by
    rw [ints_range hx (i := 1) (by omega), ← hx1]; simp [List.getD_eq_getElem?_getD, show 1 < xs.length by omega]
  have c2 : w.cell? ⟨gl, ol + 2, none⟩ = some (.int .i64 x2) := by
    rw [ints_range hx (i := 2) (by omega), ← hx2]; simp [List.getD_eq_getElem?_getD, show 2 < xs.length by omega]
  have hud : Upd (fun _ => False) w w.drew := (Upd.refl _ _).drew
  have HX := Lib.hid (And.intro (hud.range hx (fun h => h)) (And.intro (hud.cellv hc (fun h => h)) (And.intro (hud.range hr (fun h => h)) (And.intro hxl (And.intro hcl hcm)))))
  have HM : Hid (mayP xs = (withinB bndP xs && decide (x1 < x2) && entsB xs)) := by show _ = _; rw [mayP, hx1, hx2]
  clear hx hr hc hud hx1 hx2 hxl hcm
  obtain ⟨wb, hw⟩ : ∃ wb, withinB bndP xs = wb := ⟨_, rfl⟩
  have HW := Lib.hid hw
  cases wb
  · rw [hw] at HM
    clear hw
    go_enter Tryz.func256, Tryz.ntmps256
    go_wp2
    refine wp_region_held_drew (S := fun W => W.cell? ⟨gt, 0, none⟩ = some (.func (.func 168) #[] #[.pointer (some ⟨g, 0, none⟩)]) ∧ W.cell? ⟨gl, ol + 1, none⟩ = some (.int .i64 x1) ∧ W.cell? ⟨gl, ol + 2, none⟩ = some (.int .i64 x2)) (by kernel_rfl) (by (simp only [World.cell?_drew]); exact ⟨hv, c1, c2⟩) (fun hHeld => ?_)
    refine tk (i := 0) (v := ?_) rfl ?_ hHeld ?_
    rotate_left
    · intro W hSw; (try dsimp only at hSw); (try go_split_ands); go_simp; (try with_reducible rfl)
    simp only [List.getElem_toArray, List.getElem_cons_zero, Act.put, List.setIfInBounds_toArray, List.set_cons_zero, List.set_cons_succ]
    refine tk (i := 1) (v := ?_) rfl ?_ hHeld ?_
    rotate_left
    · intro W hSw; (try dsimp only at hSw); (try go_split_ands); go_simp; (try with_reducible rfl)
    simp only [List.getElem_toArray, List.getElem_cons_succ, List.getElem_cons_zero, Act.put, List.setIfInBounds_toArray, List.set_cons_zero, List.set_cons_succ]
    refine wpAnyH_ready (rs := [2]) (by kernel_rfl) (by simp) ?_
    refine AllReadyH.cons rfl (fun K hK => ?_) AllReadyH.nil
    go_simp
    refine (within_any bndP xs HX.out.2.1 HX.out.2.2.1 HX.out.1 HX.out.2.2.2.1 (by show 4 ≤ 20; decide) (by decide)).mono ?_
    rw [HW.out]
    rintro e w' ⟨rfl, hb⟩
    refine hK.out _ _ (have hU := Upd.of_below (S := fun _ => False) hb; ⟨hU.cellv hHeld.1 (fun h => h), hU.cellv hHeld.2.1 (fun h => h), hU.cellv hHeld.2.2 (fun h => h)⟩) (fun hH1 => ?_)
    clear hK K
    refine tk (i := 3) (v := ?_) rfl ?_ hH1 ?_
    rotate_left
    · intro W hSw; (try dsimp only at hSw); (try go_split_ands); go_simp; (try with_reducible rfl)
    simp only [List.getElem_toArray, List.getElem_cons_succ, List.getElem_cons_zero, Act.put, List.setIfInBounds_toArray, List.set_cons_zero, List.set_cons_succ]
    refine' wpAnyH_take (i := 4) rfl (by kernel_rfl) (by kernel_rfl) (by kernel_rfl) (fun _ _ _ h => h) (Or.inr ⟨by rfl, rfl⟩) hH1 _
    simp only [List.getElem_toArray, List.getElem_cons_succ, List.getElem_cons_zero, Act.put, List.setIfInBounds_toArray, List.set_cons_zero, List.set_cons_succ]
    refine' wpAnyH_take (i := 5) rfl (by kernel_rfl) (by kernel_rfl) (by kernel_rfl) (fun _ _ _ h => h) (Or.inr ⟨by rfl, rfl⟩) hH1 _
    simp only [List.getElem_toArray, List.getElem_cons_succ, List.getElem_cons_zero, Act.put, List.setIfInBounds_toArray, List.set_cons_zero, List.set_cons_succ]
    refine' wpAnyH_take (i := 6) rfl (by kernel_rfl) (by kernel_rfl) (by kernel_rfl) (fun _ _ _ h => h) (Or.inr ⟨by rfl, rfl⟩) hH1 _
    simp only [List.getElem_toArray, List.getElem_cons_succ, List.getElem_cons_zero, Act.put, List.setIfInBounds_toArray, List.set_cons_zero, List.set_cons_succ]
    refine' wpAnyH_take (i := 7) rfl (by kernel_rfl) (by kernel_rfl) (by kernel_rfl) (fun _ _ _ h => h) (Or.inr ⟨by rfl, rfl⟩) hH1 _
    simp only [List.getElem_toArray, List.getElem_cons_succ, List.getElem_cons_zero, Act.put, List.setIfInBounds_toArray, List.set_cons_zero, List.set_cons_succ]
    refine' wpAnyH_take (i := 8) rfl (by kernel_rfl) (by kernel_rfl) (by kernel_rfl) (fun _ _ _ h => h) (Or.inr ⟨by rfl, rfl⟩) hH1 _
    simp only [List.getElem_toArray, List.getElem_cons_succ, List.getElem_cons_zero, Act.put, List.setIfInBounds_toArray, List.set_cons_zero, List.set_cons_succ]
    refine' wpAnyH_take (i := 9) rfl (by kernel_rfl) (by kernel_rfl) (by kernel_rfl) (fun _ _ _ h => h) (Or.inr ⟨by rfl, rfl⟩) hH1 _
    simp only [List.getElem_toArray, List.getElem_cons_succ, List.getElem_cons_zero, Act.put, List.setIfInBounds_toArray, List.set_cons_zero, List.set_cons_succ]
    refine' wpAnyH_take (i := 10) rfl (by kernel_rfl) (by kernel_rfl) (by kernel_rfl) (fun _ _ _ h => h) (Or.inr ⟨by rfl, rfl⟩) hH1 _
    simp only [List.getElem_toArray, List.getElem_cons_succ, List.getElem_cons_zero, Act.put, List.setIfInBounds_toArray, List.set_cons_zero, List.set_cons_succ]
    refine wpAnyH_ready (rs := [11]) (by kernel_rfl) (by simp) ?_
    refine AllReadyH.cons rfl (fun K hK => ?_) AllReadyH.nil
    go_simp
    refine hK.out _ _ (hH1) (fun hH2 => ?_)
    clear hK K
    refine tk (i := 12) (v := ?_) rfl ?_ hH2 ?_
    rotate_left
    · intro W hSw; (try dsimp only at hSw); (try go_split_ands); go_simp; (try with_reducible rfl)
    simp only [List.getElem_toArray, List.getElem_cons_succ, List.getElem_cons_zero, Act.put, List.setIfInBounds_toArray, List.set_cons_zero, List.set_cons_succ]
    refine' wpAnyH_take (i := 13) rfl (by kernel_rfl) (by kernel_rfl) (by kernel_rfl) (fun _ _ _ h => h) (Or.inr ⟨by rfl, rfl⟩) hH2 _
    simp only [List.getElem_toArray, List.getElem_cons_succ, List.getElem_cons_zero, Act.put, List.setIfInBounds_toArray, List.set_cons_zero, List.set_cons_succ]
    refine' wpAnyH_take (i := 14) rfl (by kernel_rfl) (by kernel_rfl) (by kernel_rfl) (fun _ _ _ h => h) (Or.inr ⟨by rfl, rfl⟩) hH2 _
    simp only [List.getElem_toArray, List.getElem_cons_succ, List.getElem_cons_zero, Act.put, List.setIfInBounds_toArray, List.set_cons_zero, List.set_cons_succ]
    refine wpAnyH_ready (rs := [15]) (by kernel_rfl) (by simp) ?_
    refine AllReadyH.cons rfl (fun K hK => ?_) AllReadyH.nil
    go_simp
    refine hK.out _ _ (hH2) (fun hH3 => ?_)
    clear hK K
    refine wpAnyH_ready (rs := [16]) (by kernel_rfl) (by simp) ?_
    refine AllReadyH.cons rfl (fun K hK => ?_) AllReadyH.nil
    go_simp
    refine hK.out _ _ (hH3) (fun hH4 => ?_)
    clear hK K
    refine wpAnyH_done (by kernel_rfl) ?_ _
    have HB2 : Hid (Below w.heap.size w w') := bundrew' hb
    clear hb
    go_wp2
    go_ret
    exact ⟨by rw [HM.out]; rfl, HB2.out⟩
  · rw [hw] at HM
    clear hw
    by_cases h12 : x1 < x2
    · have q12 : decide (x1 < x2) = true := by simpa using h12
      rw [q12] at HM
      clear h12
      obtain ⟨eb, he⟩ : ∃ eb, entsB xs = eb := ⟨_, rfl⟩
      have HE := Lib.hid he
      rw [he] at HM
      clear he
      go_enter Tryz.func256, Tryz.ntmps256
      go_wp2
      refine wp_region_held_drew (S := fun W => W.cell? ⟨gt, 0, none⟩ = some (.func (.func 168) #[] #[.pointer (some ⟨g, 0, none⟩)]) ∧ W.cell? ⟨gl, ol + 1, none⟩ = some (.int .i64 x1) ∧ W.cell? ⟨gl, ol + 2, none⟩ = some (.int .i64 x2)) (by kernel_rfl) (by (simp only [World.cell?_drew]); exact ⟨hv, c1, c2⟩) (fun hHeld => ?_)
      refine tk (i := 0) (v := ?_) rfl ?_ hHeld ?_
      rotate_left
      · intro W hSw; (try dsimp only at hSw); (try go_split_ands); go_simp; (try with_reducible rfl)
      simp only [List.getElem_toArray, List.getElem_cons_zero, Act.put, List.setIfInBounds_toArray, List.set_cons_zero, List.set_cons_succ]
      refine tk (i := 1) (v := ?_) rfl ?_ hHeld ?_
      rotate_left
      · intro W hSw; (try dsimp only at hSw); (try go_split_ands); go_simp; (try with_reducible rfl)
      simp only [List.getElem_toArray, List.getElem_cons_succ, List.getElem_cons_zero, Act.put, List.setIfInBounds_toArray, List.set_cons_zero, List.set_cons_succ]
      refine wpAnyH_ready (rs := [2]) (by kernel_rfl) (by simp) ?_
      refine AllReadyH.cons rfl (fun K hK => ?_) AllReadyH.nil
      go_simp
      refine (within_any bndP xs HX.out.2.1 HX.out.2.2.1 HX.out.1 HX.out.2.2.2.1 (by show 4 ≤ 20; decide) (by decide)).mono ?_
      rw [HW.out]
      rintro e w' ⟨rfl, hb⟩
      refine hK.out _ _ (have hU := Upd.of_below (S := fun _ => False) hb; ⟨hU.cellv hHeld.1 (fun h => h), hU.cellv hHeld.2.1 (fun h => h), hU.cellv hHeld.2.2 (fun h => h)⟩) (fun hH1 => ?_)
      clear hK K
      refine tk (i := 3) (v := ?_) rfl ?_ hH1 ?_
      rotate_left
      · intro W hSw; (try dsimp only at hSw); (try go_split_ands); go_simp; (try with_reducible rfl)
      simp only [List.getElem_toArray, List.getElem_cons_succ, List.getElem_cons_zero, Act.put, List.setIfInBounds_toArray, List.set_cons_zero, List.set_cons_succ]
      refine tk (i := 4) (v := ?_) rfl ?_ hH1 ?_
      rotate_left
      · intro W hSw; (try dsimp only at hSw); (try go_split_ands); go_simp; (try with_reducible rfl)
      simp only [List.getElem_toArray, List.getElem_cons_succ, List.getElem_cons_zero, Act.put, List.setIfInBounds_toArray, List.set_cons_zero, List.set_cons_succ]
      refine tk (i := 5) (v := ?_) rfl ?_ hH1 ?_
      rotate_left
      · intro W hSw; (try dsimp only at hSw); (try go_split_ands); go_simp; (try with_reducible rfl)
      simp only [List.getElem_toArray, List.getElem_cons_succ, List.getElem_cons_zero, Act.put, List.setIfInBounds_toArray, List.set_cons_zero, List.set_cons_succ]
      refine tk (i := 6) (v := ?_) rfl ?_ hH1 ?_
      rotate_left
      · intro W hSw; (try dsimp only at hSw); (try go_split_ands); go_simp; (try with_reducible rfl)
      simp only [List.getElem_toArray, List.getElem_cons_succ, List.getElem_cons_zero, Act.put, List.setIfInBounds_toArray, List.set_cons_zero, List.set_cons_succ]
      refine tk (i := 7) (v := ?_) rfl ?_ hH1 ?_
      rotate_left
      · intro W hSw; (try dsimp only at hSw); (try go_split_ands); go_simp; (try with_reducible rfl)
      simp only [List.getElem_toArray, List.getElem_cons_succ, List.getElem_cons_zero, Act.put, List.setIfInBounds_toArray, List.set_cons_zero, List.set_cons_succ]
      refine tk (i := 8) (v := ?_) rfl ?_ hH1 ?_
      rotate_left
      · intro W hSw; (try dsimp only at hSw); (try go_split_ands); go_simp; (try with_reducible rfl)
      simp only [List.getElem_toArray, List.getElem_cons_succ, List.getElem_cons_zero, Act.put, List.setIfInBounds_toArray, List.set_cons_zero, List.set_cons_succ]
      refine tk (i := 9) (v := ?_) rfl ?_ hH1 ?_
      rotate_left
      · intro W hSw; (try dsimp only at hSw); (try go_split_ands); go_simp; (try with_reducible rfl)
      simp only [List.getElem_toArray, List.getElem_cons_succ, List.getElem_cons_zero, Act.put, List.setIfInBounds_toArray, List.set_cons_zero, List.set_cons_succ]
      refine tk (i := 10) (v := ?_) rfl ?_ hH1 ?_
      rotate_left
      · intro W hSw; (try dsimp only at hSw); (try go_split_ands); go_simp; (try with_reducible rfl)
      simp only [List.getElem_toArray, List.getElem_cons_succ, List.getElem_cons_zero, Act.put, List.setIfInBounds_toArray, List.set_cons_zero, List.set_cons_succ]
      refine wpAnyH_ready (rs := [11]) (by kernel_rfl) (by simp) ?_
      refine AllReadyH.cons rfl (fun K hK => ?_) AllReadyH.nil
      go_simp
      refine hK.out _ _ (hH1) (fun hH2 => ?_)
      clear hK K
      refine tk (i := 12) (v := ?_) rfl ?_ hH2 ?_
      rotate_left
      · intro W hSw; (try dsimp only at hSw); (try go_split_ands); go_simp; (try with_reducible rfl)
      simp only [List.getElem_toArray, List.getElem_cons_succ, List.getElem_cons_zero, Act.put, List.setIfInBounds_toArray, List.set_cons_zero, List.set_cons_succ]
      refine tk (i := 13) (v := ?_) rfl ?_ hH2 ?_
      rotate_left
      · intro W hSw; (try dsimp only at hSw); (try go_split_ands); go_simp; (try with_reducible rfl)
      simp only [List.getElem_toArray, List.getElem_cons_succ, List.getElem_cons_zero, Act.put, List.setIfInBounds_toArray, List.set_cons_zero, List.set_cons_succ]
      refine wpAnyH_ready (rs := [14]) (by kernel_rfl) (by simp) ?_
      refine AllReadyH.cons rfl (fun K hK => ?_) AllReadyH.nil
      go_simp
      refine (ents_any (Below.range hb HX.out.1) HX.out.2.2.2.1 HX.out.2.2.2.2.1 HX.out.2.2.2.2.2).mono ?_
      rw [HE.out]
      rintro e w'' ⟨rfl, hb2⟩
      refine hK.out _ _ (have hU := Upd.of_below (S := fun _ => False) hb2; ⟨hU.cellv hH2.1 (fun h => h), hU.cellv hH2.2.1 (fun h => h), hU.cellv hH2.2.2 (fun h => h)⟩) (fun hH3 => ?_)
      clear hK K
      refine wpAnyH_ready (rs := [15]) (by kernel_rfl) (by simp) ?_
      refine AllReadyH.cons rfl (fun K hK => ?_) AllReadyH.nil
      go_simp
      refine hK.out _ _ (hH3) (fun hH4 => ?_)
      clear hK K
      refine wpAnyH_ready (rs := [16]) (by kernel_rfl) (by simp) ?_
      refine AllReadyH.cons rfl (fun K hK => ?_) AllReadyH.nil
      go_simp
      refine hK.out _ _ (hH4) (fun hH5 => ?_)
      clear hK K
      refine wpAnyH_done (by kernel_rfl) ?_ _
      have HB2 : Hid (Below w.heap.size w w'') := bundrew' (hb.trans (hb2.mono hb.size))
      clear hb hb2
      go_wp2
      go_ret
      exact ⟨by rw [HM.out]; cases eb <;> rfl, HB2.out⟩
    · have q12 : decide (x1 < x2) = false := by simpa using h12
      rw [q12] at HM
      clear h12
      go_enter Tryz.func256, Tryz.ntmps256
      go_wp2
      refine wp_region_held_drew (S := fun W => W.cell? ⟨gt, 0, none⟩ = some (.func (.func 168) #[] #[.pointer (some ⟨g, 0, none⟩)]) ∧ W.cell? ⟨gl, ol + 1, none⟩ = some (.int .i64 x1) ∧ W.cell? ⟨gl, ol + 2, none⟩ = some (.int .i64 x2)) (by kernel_rfl) (by (simp only [World.cell?_drew]); exact ⟨hv, c1, c2⟩) (fun hHeld => ?_)
      refine tk (i := 0) (v := ?_) rfl ?_ hHeld ?_
      rotate_left
      · intro W hSw; (try dsimp only at hSw); (try go_split_ands); go_simp; (try with_reducible rfl)
      simp only [List.getElem_toArray, List.getElem_cons_zero, Act.put, List.setIfInBounds_toArray, List.set_cons_zero, List.set_cons_succ]
      refine tk (i := 1) (v := ?_) rfl ?_ hHeld ?_
      rotate_left
      · intro W hSw; (try dsimp only at hSw); (try go_split_ands); go_simp; (try with_reducible rfl)
      simp only [List.getElem_toArray, List.getElem_cons_succ, List.getElem_cons_zero, Act.put, List.setIfInBounds_toArray, List.set_cons_zero, List.set_cons_succ]
      refine wpAnyH_ready (rs := [2]) (by kernel_rfl) (by simp) ?_
      refine AllReadyH.cons rfl (fun K hK => ?_) AllReadyH.nil
      go_simp
      refine (within_any bndP xs HX.out.2.1 HX.out.2.2.1 HX.out.1 HX.out.2.2.2.1 (by show 4 ≤ 20; decide) (by decide)).mono ?_
      rw [HW.out]
      rintro e w' ⟨rfl, hb⟩
      refine hK.out _ _ (have hU := Upd.of_below (S := fun _ => False) hb; ⟨hU.cellv hHeld.1 (fun h => h), hU.cellv hHeld.2.1 (fun h => h), hU.cellv hHeld.2.2 (fun h => h)⟩) (fun hH1 => ?_)
      clear hK K
      refine tk (i := 3) (v := ?_) rfl ?_ hH1 ?_
      rotate_left
      · intro W hSw; (try dsimp only at hSw); (try go_split_ands); go_simp; (try with_reducible rfl)
      simp only [List.getElem_toArray, List.getElem_cons_succ, List.getElem_cons_zero, Act.put, List.setIfInBounds_toArray, List.set_cons_zero, List.set_cons_succ]
      refine tk (i := 4) (v := ?_) rfl ?_ hH1 ?_
      rotate_left
      · intro W hSw; (try dsimp only at hSw); (try go_split_ands); go_simp; (try with_reducible rfl)
      simp only [List.getElem_toArray, List.getElem_cons_succ, List.getElem_cons_zero, Act.put, List.setIfInBounds_toArray, List.set_cons_zero, List.set_cons_succ]
      refine tk (i := 5) (v := ?_) rfl ?_ hH1 ?_
      rotate_left
      · intro W hSw; (try dsimp only at hSw); (try go_split_ands); go_simp; (try with_reducible rfl)
      simp only [List.getElem_toArray, List.getElem_cons_succ, List.getElem_cons_zero, Act.put, List.setIfInBounds_toArray, List.set_cons_zero, List.set_cons_succ]
      refine tk (i := 6) (v := ?_) rfl ?_ hH1 ?_
      rotate_left
      · intro W hSw; (try dsimp only at hSw); (try go_split_ands); go_simp; (try with_reducible rfl)
      simp only [List.getElem_toArray, List.getElem_cons_succ, List.getElem_cons_zero, Act.put, List.setIfInBounds_toArray, List.set_cons_zero, List.set_cons_succ]
      refine tk (i := 7) (v := ?_) rfl ?_ hH1 ?_
      rotate_left
      · intro W hSw; (try dsimp only at hSw); (try go_split_ands); go_simp; (try with_reducible rfl)
      simp only [List.getElem_toArray, List.getElem_cons_succ, List.getElem_cons_zero, Act.put, List.setIfInBounds_toArray, List.set_cons_zero, List.set_cons_succ]
      refine tk (i := 8) (v := ?_) rfl ?_ hH1 ?_
      rotate_left
      · intro W hSw; (try dsimp only at hSw); (try go_split_ands); go_simp; (try with_reducible rfl)
      simp only [List.getElem_toArray, List.getElem_cons_succ, List.getElem_cons_zero, Act.put, List.setIfInBounds_toArray, List.set_cons_zero, List.set_cons_succ]
      refine tk (i := 9) (v := ?_) rfl ?_ hH1 ?_
      rotate_left
      · intro W hSw; (try dsimp only at hSw); (try go_split_ands); go_simp; (try with_reducible rfl)
      simp only [List.getElem_toArray, List.getElem_cons_succ, List.getElem_cons_zero, Act.put, List.setIfInBounds_toArray, List.set_cons_zero, List.set_cons_succ]
      refine tk (i := 10) (v := ?_) rfl ?_ hH1 ?_
      rotate_left
      · intro W hSw; (try dsimp only at hSw); (try go_split_ands); go_simp; (try with_reducible rfl)
      simp only [List.getElem_toArray, List.getElem_cons_succ, List.getElem_cons_zero, Act.put, List.setIfInBounds_toArray, List.set_cons_zero, List.set_cons_succ]
      refine wpAnyH_ready (rs := [11]) (by kernel_rfl) (by simp) ?_
      refine AllReadyH.cons rfl (fun K hK => ?_) AllReadyH.nil
      go_simp
      refine hK.out _ _ (hH1) (fun hH2 => ?_)
      clear hK K
      refine tk (i := 12) (v := ?_) rfl ?_ hH2 ?_
      rotate_left
      · intro W hSw; (try dsimp only at hSw); (try go_split_ands); go_simp; (try with_reducible rfl)
      simp only [List.getElem_toArray, List.getElem_cons_succ, List.getElem_cons_zero, Act.put, List.setIfInBounds_toArray, List.set_cons_zero, List.set_cons_succ]
      refine' wpAnyH_take (i := 13) rfl (by kernel_rfl) (by kernel_rfl) (by kernel_rfl) (fun _ _ _ h => h) (Or.inr ⟨by rfl, rfl⟩) hH2 _
      simp only [List.getElem_toArray, List.getElem_cons_succ, List.getElem_cons_zero, Act.put, List.setIfInBounds_toArray, List.set_cons_zero, List.set_cons_succ]
      refine' wpAnyH_take (i := 14) rfl (by kernel_rfl) (by kernel_rfl) (by kernel_rfl) (fun _ _ _ h => h) (Or.inr ⟨by rfl, rfl⟩) hH2 _
      simp only [List.getElem_toArray, List.getElem_cons_succ, List.getElem_cons_zero, Act.put, List.setIfInBounds_toArray, List.set_cons_zero, List.set_cons_succ]
      refine wpAnyH_ready (rs := [15]) (by kernel_rfl) (by simp) ?_
      refine AllReadyH.cons rfl (fun K hK => ?_) AllReadyH.nil
      go_simp
      refine hK.out _ _ (hH2) (fun hH3 => ?_)
      clear hK K
      refine wpAnyH_ready (rs := [16]) (by kernel_rfl) (by simp) ?_
      refine AllReadyH.cons rfl (fun K hK => ?_) AllReadyH.nil
      go_simp
      refine hK.out _ _ (hH3) (fun hH4 => ?_)
      clear hK K
      refine wpAnyH_done (by kernel_rfl) ?_ _
      have HB2 : Hid (Below w.heap.size w w') := bundrew' hb
      clear hb
      go_wp2
      go_ret
      exact ⟨by rw [HM.out]; rfl, HB2.out⟩
theorem within_at {B : List (Int × Int)} {xs : List Int} (h : withinB B xs = true) {i : Nat} (hi : i < B.length) (hx : i < xs.length) : B[i].1 ≤ xs[i] ∧ xs[i] ≤ B[i].2 := by
  unfold withinB at h
  rw [List.all_eq_true] at h
  have := h (B[i], xs[i]) (by rw [List.mem_iff_getElem]; exact ⟨i, by simp; omega, by simp⟩)
  simpa [inB] using this
theorem mayP_fits {xs : List Int} (hx : xs.length = 20) (h : mayP xs = true) : (∀ x ∈ xs, 0 ≤ x) ∧ Fits (numL [6, 2, 2, 1, 2, 2, 1, 4, 2, 2, 1, 4, 2, 2, 1, 4, 2, 2, 1, 4] xs) := by
  simp only [mayP, Bool.and_eq_true] at h
  obtain ⟨⟨h1, h2⟩, h3⟩ := h
  have a0 := within_at h1 (i := 0) (by decide) (by omega)
  have a1 := within_at h1 (i := 1) (by decide) (by omega)
  have a2 := within_at h1 (i := 2) (by decide) (by omega)
  have a3 := within_at h1 (i := 3) (by decide) (by omega)
  simp [bndP] at a0 a1 a2 a3
  unfold entsB at h3
  rw [List.all_eq_true] at h3
  have hr : ∀ i (_ : i < 4), ∀ j (_ : j < 4), ∃ h : 4 + 4 * i + j < xs.length, 0 ≤ xs[4 + 4 * i + j] ∧ xs[4 + 4 * i + j] ≤ bndE[j]!.2 := by
    intro i hi j hj
    refine ⟨by omega, ?_⟩
    have hrow := h3 i (by simpa using hi)
    have hlen := rowI_len hx hi
    have e : (rowI xs i)[j]'(by omega) = xs[4 + 4 * i + j]'(by omega) := by simp [rowI]
    rw [← e]
    unfold entB at hrow
    split at hrow
    · have := within_at hrow (i := j) (by simpa [bndE] using hj) (by omega)
      rcases j with _ | _ | _ | _ | j
      all_goals first | omega | (simp [bndE] at this ⊢; omega)
    · simp at hrow
      have h0 : (rowI xs i)[j]'(by omega) = 0 := by
        simp only [hrow]
        rcases j with _ | _ | _ | _ | j
        all_goals first | omega | rfl
      rw [h0]
      rcases j with _ | _ | _ | _ | j
      all_goals first | omega | (simp [bndE])
  have hb : ∀ i (h1 : i < xs.length) (h2 : i < [6, 2, 2, 1, 2, 2, 1, 4, 2, 2, 1, 4, 2, 2, 1, 4, 2, 2, 1, 4].length), 0 ≤ xs[i] ∧ xs[i] < 256 ^ [6, 2, 2, 1, 2, 2, 1, 4, 2, 2, 1, 4, 2, 2, 1, 4, 2, 2, 1, 4][i] := by
    intro i hi hi2
    by_cases hi4 : i < 4
    · rcases i with _ | _ | _ | _ | i
      all_goals first | omega | (simp; omega)
    · obtain ⟨k, j, hk, hj, rfl⟩ : ∃ k j, k < 4 ∧ j < 4 ∧ i = 4 + 4 * k + j := ⟨(i - 4) / 4, (i - 4) % 4, by omega, by omega, by omega⟩
      obtain ⟨hh, r1, r2⟩ := hr k hk j hj
      refine ⟨r1, ?_⟩
      have hk' : k = 0 ∨ k = 1 ∨ k = 2 ∨ k = 3 := by omega
      have hj' : j = 0 ∨ j = 1 ∨ j = 2 ∨ j = 3 := by omega
      rcases hk' with rfl | rfl | rfl | rfl <;> rcases hj' with rfl | rfl | rfl | rfl <;> simp [bndE] at r2 ⊢ <;> omega
  refine ⟨fun x hx2 => ?_, numL_fits (by rw [hx]; rfl) (by decide) (by decide) hb⟩
  obtain ⟨i, hi, rfl⟩ := List.getElem_of_mem hx2
  exact (hb i hi (by simp; omega)).1
end Go.Proofs.YtnadilfobmgebaaGreatDoor
