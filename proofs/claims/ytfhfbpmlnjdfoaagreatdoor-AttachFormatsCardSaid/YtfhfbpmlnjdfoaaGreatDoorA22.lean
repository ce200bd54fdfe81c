/- The plain law of Evict: what goes, and what is left. The clock's Evict. A cache's clock: Evict. A cache: leave. A cache: drop. A cache's slots: Alloc, Count. A range over a function whose rounds turn blocks of cells alone; free: all stale slots are free. A cache: Commit. Pages: Save. -/
import Derived.Test.YtfhfbpmlnjdfoaaGreatDoorA21
import Derived.Test.YtfhfbpmlnjdfoaaGreatDoorA12
import Derived.Test.YtfhfbpmlnjdfoaaGreatDoorA13
import Derived.Test.YtfhfbpmlnjdfoaaGreatDoorA19
import Derived.Test.YtfhfbpmlnjdfoaaGreatDoorA16
namespace Go.Proofs.YtfhfbpmlnjdfoaaGreatDoor.EvG
open Go Go.RowKit Go.Proofs.YtfhfbpmlnjdfoaaGreatDoor
end Go.Proofs.YtfhfbpmlnjdfoaaGreatDoor.EvG
namespace Go.Proofs.YtfhfbpmlnjdfoaaGreatDoor
open Go Go.RowKit
section
variable {own : Nat → Nat} {w w' : World} {c : Nat} {n : CaN} {p : CaP} {a : CaS}
theorem ca_count (h : CaAt own w c n p a) (st : Int) :
    Calls Tryz.prog 84 #[ptr p.ss, .int .i64 st] w (CaOut own w c n p a (.int .i64 (pos a.st st).length)) := by
  obtain ⟨v, hi, -, -⟩ := h.ss
  exact (count_any hi st (by rw [h.sl]; exact h.ok.s1)).mono fun _ _ ⟨he, hb⟩ => ⟨he, own, h.new (Upd.of_below hb), h.didNew (Upd.of_below hb)⟩
end
end Go.Proofs.YtfhfbpmlnjdfoaaGreatDoor
namespace Go.Proofs.YtfhfbpmlnjdfoaaGreatDoor
open Go Go.RowKit Go.Shelf
attribute [local go_sem] Oper.semAt_some
theorem Ss.exact {S : Nat → Prop} {w : World} {b : Nat} {l : List Int} (h : Ss S w b l) : ∃ S0 : Nat → Prop, Ss S0 w b l ∧ (∀ j, S0 j → S j) ∧ ∀ j, S0 j → ∃ cs t z, w.heap[j]? = some (.cells cs t z) := by
  obtain ⟨v, h, hb, hs⟩ := h
  refine ⟨fun j => j = b ∨ v.ownBlock = some j, ⟨v, h, .inl rfl, fun j hj => .inr hj⟩, fun j hj => by rcases hj with rfl | hj; exact hb; exact hs j hj, fun j hj => ?_⟩
  rcases hj with rfl | hj
  · exact ⟨_, _, _, h.str⟩
  · rcases h.sl with ⟨-, ⟨e, -⟩ | ⟨g, off, cap, cur, e, hg, -⟩⟩
    · rw [e] at hj; cases hj
    · rw [e] at hj; cases hj; exact ⟨_, _, _, hg⟩
theorem Ss.grown {S : Nat → Prop} {w w' : World} {b : Nat} {l : List Int} {row : Option Nat} (h : Ss S w b l) (hg : w.grownBy w' row) (hr : ∀ r, row = some r → ∃ o : Obj, w.heap[r]? = some o ∧ o.isCells = false) : Ss S w' b l := by
  obtain ⟨S0, h0, hs, hc⟩ := h.exact
  have := (Ss.thing b l).keep h0 (Upd.of_grown (S := fun j => row = some j) hg (fun g e _ => e)) (fun j hj e => by
    obtain ⟨cs, t, z, hj'⟩ := hc j hj
    exact keep_grown hj' hg hr e)
  exact (Ss.thing b l).out this (fun j _ hj => hs j hj)
theorem sturn {S : Nat → Prop} {w : World} {b : Nat} {l : List Int} (h : Ss S w b l) (ht : Tur w) (slot state : Int) :
    Calls Tryz.prog 176 #[ptr b, .int .i64 slot, .int .i64 state] w fun e w' => e = .returned (.int .i64 (turnCode l slot state)) ∧ Ss S w' b (turnList l slot state) ∧ Upd S w w' := by
  obtain ⟨v, h, hb, hs⟩ := h
  exact (turn_any h ht slot state).mono fun _ _ ⟨he, h', hu⟩ => ⟨he, ⟨v, h', hb, hs⟩, hu.mono (fun k _ hk => hs k hk)⟩
theorem turnList_len (l : List Int) (slot state : Int) : (turnList l slot state).length = l.length := by unfold turnList; split <;> simp
def freeTo (l : List Int) (pre : List Nat) : List Int := pre.foldl (fun (l : List Int) (k : Nat) => turnList l (k : Int) 0) l
theorem freeTo_snoc (l : List Int) (pre : List Nat) (x : Nat) : freeTo l (pre ++ [x]) = turnList (freeTo l pre) (x : Int) 0 := by simp [freeTo]
theorem freeTo_len (l : List Int) (pre : List Nat) : (freeTo l pre).length = l.length := by
  induction pre generalizing l with
  | nil => rfl
  | cons x pre ih => exact (ih (turnList l (x : Int) 0)).trans (turnList_len _ _ _)
section
variable {own : Nat → Nat} {w w' : World} {c : Nat} {n : CaN} {p : CaP} {a : CaS}
def FreeOut (own : Nat → Nat) (w : World) (c : Nat) (n : CaN) (p : CaP) (a : CaS) (e : Ending) (w' : World) : Prop := CaOut own w c n p { a with st := freeTo a.st (pos a.st 3) } (.tuple #[]) e w'
set_option maxRecDepth 100000 in
set_option maxHeartbeats 1000000 in
theorem ca_free (h : CaAt own w c n p a) : Calls Tryz.prog 102 #[ptr c] w (FreeOut own w c n p a) := by
  have hu0 : Upd (fun _ => False) w (w.alloc (.cells #[ptr c] 62)) := (Upd.refl _ w).alloc _
  have h1 := h.new hu0
  have bO0 : Boxed (w.alloc (.cells #[ptr c] 62)) w.heap.size 62 (ptr c) := Boxed.new w _ _
  obtain ⟨d0, d1, d2, d3, d4, d5, d6, d7, d8⟩ := h1.cells
  obtain ⟨vs, hss, hsb, hsv⟩ := h1.ss
  have hpos : 0 < a.st.length := by have := h.sl; have := h.ok.s1; omega
  have hA := all_any hss 3 hpos
  have hle := hss.le
  have HC := Lib.hid (And.intro h (And.intro hu0 (And.intro h1 hA)))
  have hz : (w.alloc (.cells #[ptr c] 62)).heap.size = w.heap.size + 1 := by simp
  have hcl := h.clt
  clear h hu0 h1 hA hss hsb hsv d0 d1 d2 d3 d4 d6 d7 d8
  refine (callsIn_wide (n := 3)).1 ?_
  refine callsIn_of_wp_marks Tryz.func102 rfl trivial ?_ rfl
  simp only [Tryz.ntmps102, List.size_toArray, List.length_cons, List.length_nil, Nat.reduceAdd, Nat.reduceSub, Array.replicate_succ, Array.replicate_zero, List.push_toArray, List.append_toArray, List.nil_append, List.cons_append]
  gi_wp2_with (refine ⟨trivial, ?_⟩; gi_at_call 159; refine (callsIn_wide.2 HC.out.2.2.2).mono ?_; rintro e w1 ⟨Bs, Bt, g, off, cap, rfl, hge, hBs, hBt, hg, hcs, hct, hcl, hb1⟩)
  have hsz := hb1.size
  rw [hz] at hsz hge
  have hu1 : Upd (fun _ => False) w w1 := HC.out.2.1.trans (Upd.of_below hb1)
  have hca := HC.out.1.new hu1
  have bO : Boxed w1 w.heap.size 62 (ptr c) := (hb1.block _ (by rw [hz]; omega)).trans bO0
  have hS : Hid (∀ j, ¬ (own j = 6) → j < w1.heap.size → ¬ (w1.heap.size ≤ j ∨ own j = 6)) := fun j h1 h2 h => by rcases h with h | h; omega; exact h1 h
  have hfar : Hid (∀ j, w.heap.size ≤ j → ¬ own j = 6) := fun j hj e => by rw [HC.out.1.far j hj] at e; exact absurd e (by decide)
  have HA := Lib.hid hca
  clear hca
  refine wpIn_rangeFunc_ownF rfl (by omega) (gf := 227) (lb := #[.pointer (some ⟨Bs, 0, none⟩), .pointer (some ⟨Bt, 0, none⟩)]) rfl trivial (enters_of Tryz.func227 (by kernel_rfl) rfl)
    (sit_stops Fence.wide _ trivial rfl (by omega) (fun j => w1.heap.size ≤ j ∨ own j = 6) Bs Bt g off cap a.st 3 w1 hle hg hBt hBs (hS.out _ (hfar.out _ (by omega)) hg) (hS.out _ (hfar.out _ (by omega)) hBt) hcs hct hcl) supd_t (fun W l o o' hl => supd_b (M := w1.heap.size) (fun j h => .inl h) W l o o' hl) (Below.refl _ _) (fun _ => rfl)
    (fun pre W => Ss (fun j => own j = 6) W p.ss (freeTo a.st pre) ∧ Upd (fun j => w1.heap.size ≤ j ∨ own j = 6) w1 W)
    (fun _ _ _ => False)
    (fun pre X Y row hs hg hr => ⟨hs.1.grown hg (fun r e => (hr r e).2), upd_grown hs.2 hg (fun r e => .inl (hr r e).1)⟩)
    (fun _ _ _ _ _ hs _ _ => hs)
    ⟨HA.out.ss, Upd.refl _ _⟩
    (fun x => { tmps := #[ptr c, .pointer (some ⟨w.heap.size, 0, none⟩), .int .i64 (x : Int), ptr c, ptr c, .pointer (some ⟨c, 19, none⟩), ptr p.ss, .func (.func 227) #[] #[.pointer (some ⟨Bs, 0, none⟩), .pointer (some ⟨Bt, 0, none⟩)], .int .i64 (x : Int), undef, undef, undef, undef, undef, undef], defers := [] }) ?assign ?body ?done ?stop
  case assign =>
    intro l x W K hK
    gi_wp2
    simpa using hK
  case body =>
    rintro l pre x W ⟨hv, hu⟩ hlt
    have hb := hu.block _ (lt_of_block bO) (hS.out _ (hfar.out _ (Nat.le_refl _)) (lt_of_block bO)) |>.trans bO
    have hc1 : W.cell? ⟨w.heap.size, 0, none⟩ = some (ptr c) := cell_of_block hb 0
    have hstr := (hu.block c HA.out.clt (hS.out _ (by rw [HA.out.oc]; decide) HA.out.clt)).trans HA.out.str
    have hc2 : W.cell? ⟨c, 19, none⟩ = some (ptr p.ss) := cell_of_block hstr 19
    have htu := HA.out.tur.keep hu (hS.out _ (by rw [HA.out.ot]; decide) HA.out.tur.lt)
    obtain ⟨S0, h0, hs0, hcs0⟩ := hv.exact
    have HT := Lib.hid (And.intro (sturn h0 htu (x : Int) 0) (And.intro hu (And.intro hs0 hcs0)))
    clear hv hu hb hstr htu h0 hs0 hcs0
    gi_wp2_with ((first | (refine ⟨trivial, fun _ => by omega, ?_⟩) | (refine ⟨trivial, ?_⟩) | skip); gi_at_call 176; refine (CallsIn.inRound l (callsIn_wide.2 HT.out.1)).mono ?_; rintro e W2 ⟨rfl, hs2, hu2⟩)
    obtain ⟨hT, hu, hs0, hcs0⟩ := HT.out
    refine ⟨keepsOthers_cells hu2 (fun j hj _ => hcs0 j hj), hu2.mono (fun k _ hk => .inr (hs0 k hk)), ?_, hu.trans (hu2.mono (fun k _ hk => .inr (hs0 k hk)))⟩
    rw [freeTo_snoc]
    exact (Ss.thing _ _).out hs2 (fun j _ hj => hs0 j hj)
  case done =>
    rintro D ys W hD rfl ⟨hv, hu⟩ hK
    gi_wp2
    refine ⟨by simp, .inl ⟨_, _, rfl, run_takeDeferred hK, ?_⟩⟩
    refine ⟨_, results_none rfl _ _ _, ?_⟩
    have hW := supd_b (S := fun j => w1.heap.size ≤ j ∨ own j = 6) (M := w1.heap.size) (fun j h => .inl h) W D _ (.deferred none) hD hK rfl rfl
    have hv2 := hv.grown (grownBy_putObj' W D (.deferred none)) (fun r e => by cases e; exact ⟨_, hK, rfl⟩)
    have hu2 : Upd (fun j => own j = 6 ∨ w.heap.size ≤ j) w (W.putObj D (.deferred none)) := (hu1.mono (fun _ _ h => h.elim)).new (hu.trans hW) (fun i hi hs => by rcases hs with hs | hs; omega; exact .inl hs)
    have hsz2 := hu2.size
    exact ⟨rfl, _, HC.out.1.turn6 hu2 ((Ss.thing _ _).out hv2 (fun j _ hj => .inl hj)) (freeTo_len _ _), HC.out.1.did6 hu2⟩
  case stop =>
    rintro D c pre W _ _ h _
    exact h.elim
end
end Go.Proofs.YtfhfbpmlnjdfoaaGreatDoor
namespace Go.Proofs.YtfhfbpmlnjdfoaaGreatDoor
open Go Go.RowKit
def CaS.fb (a : CaS) : CaS := a.bdev (flushR a.bF a.bO a.bP)
end Go.Proofs.YtfhfbpmlnjdfoaaGreatDoor
