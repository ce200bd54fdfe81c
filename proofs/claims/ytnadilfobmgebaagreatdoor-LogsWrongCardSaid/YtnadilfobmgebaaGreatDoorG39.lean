/- The three logs together: puts, Check. A device's Copy. What a put does to logs that are new; logs beside what their caller lays. -/
import Derived.Test.YtnadilfobmgebaaGreatDoorG38
import Derived.Test.YtnadilfobmgebaaGreatDoorG29
import Derived.Test.YtnadilfobmgebaaGreatDoorG04
import Derived.Test.YtnadilfobmgebaaGreatDoorG11
import Derived.Laws.EntriesVeiled
import Derived.Test.YtnadilfobmgebaaGreatDoorG30
namespace Go.Proofs.YtnadilfobmgebaaGreatDoor
open Go Go.RowKit
def fineAll (K : Kind) (zs : List Value) (base n : Nat) (F : List Bk) (O : List (Nat × Bk)) : Prop := ∀ j, j < n → fine K zs base n F O j
section
variable {S : Nat → Prop} {w w' : World} {li lc lf d k : Nat} {F : List Bk} {O : List (Nat × Bk)} {P : List Int}
theorem l17_putC (h : L17 S w li lc lf d k F O P) (hO : O.length < 65000) (x1 x2 x3 x4 x5 x6 : Int) :
    Calls Tryz.prog 24 #[ptr lc, .agg (certC x1 x2 x3 x4 x5 x6).toArray] w (LOut S w li lc lf d k (logPutR (mayT [x1, x2, x3, x4, x5, x6]) (11 + k) k x1 (certB x1.toNat x2.toNat x3.toNat x4.toNat x5.toNat x6.toNat) F O P)) :=
  (putCt h.c h.dv h.nS h.cS h.nib h.nibS tellsOpen2 (by have := h.fl; omega) hO x1 x2 x3 x4 x5 x6).mono fun _ _ ⟨he, hd, hu⟩ => ⟨he, h.turn hu hd (logPutR_len _ _ _ _ _ _ _ _), hu⟩
theorem l17_putF (h : L17 S w li lc lf d k F O P) (hO : O.length < 65000) (x : Int) (xs : List Int) (hx : (x :: xs).length = 13) :
    Calls Tryz.prog 25 #[ptr lf, .agg (ints (x :: xs)).toArray] w (LOut S w li lc lf d k (logPutR (mayF (x :: xs)) (11 + k + k) k x (sectF (x :: xs)) F O P)) :=
  (putFa h.f h.dv h.nS h.fS h.nib h.nibS tellsOpen3 (by have := h.fl; omega) hO x xs hx).mono fun _ _ ⟨he, hd, hu⟩ => ⟨he, h.turn hu hd (logPutR_len _ _ _ _ _ _ _ _), hu⟩
def AllSaid (S : Nat → Prop) (w : World) (li lc lf d k : Nat) (F : List Bk) (O : List (Nat × Bk)) (K : Kind) (zs : List Value) (base : Nat) (e : Ending) (w' : World) : Prop :=
  ∃ v cd, e = .returned (.tuple #[v, .int .i64 cd]) ∧ (cd = 0 ↔ fineAll K zs base k F O) ∧ L17 S w' li lc lf d k F O [] ∧ Upd S w w'
theorem said_of (h : L17 S w li lc lf d k F O []) {l te m : Nat} {K : Kind} {zs : List Value} {base : Nat} {e : Ending} (ha : AllOut S w d l F O te m K zs base k e w') : AllSaid S w li lc lf d k F O K zs base e w' := by
  rcases ha with ⟨hf, v, rfl, T, hTS, -, hdT, -, -, -, hU⟩ | ⟨i, hi, -, hnf, rfl, hd, hU⟩
  · exact ⟨v, 0, rfl, ⟨fun _ => hf, fun _ => rfl⟩, h.turn hU (hdT.wide hTS) rfl, hU⟩
  · exact ⟨_, _, rfl, ⟨fun e => (hnf (.inl e)).elim, fun hf => (hnf (hf i hi)).elim⟩, h.turn hU hd rfl, hU⟩
theorem saidI (h : L17 S w li lc lf d k F O []) : Calls Tryz.prog 64 #[ptr li] w (AllSaid S w li lc lf d k F O kindI zsI 11) :=
  (allI h.i h.dv h.nS h.iS h.nib h.nibS tellsOpen1 (by have := h.fl; omega)).mono fun _ _ ha => said_of h ha
theorem saidC (h : L17 S w li lc lf d k F O []) : Calls Tryz.prog 65 #[ptr lc] w (AllSaid S w li lc lf d k F O kindC zsC (11 + k)) :=
  (allCt h.c h.dv h.nS h.cS h.nib h.nibS tellsOpen2 (by have := h.fl; omega)).mono fun _ _ ha => said_of h ha
theorem saidF (h : L17 S w li lc lf d k F O []) : Calls Tryz.prog 66 #[ptr lf] w (AllSaid S w li lc lf d k F O kindF zsF (11 + k + k)) :=
  (allFa h.f h.dv h.nS h.fS h.nib h.nibS tellsOpen3 (by have := h.fl; omega)).mono fun _ _ ha => said_of h ha
def CheckOut (S : Nat → Prop) (w : World) (li lc lf d k : Nat) (F : List Bk) (O : List (Nat × Bk)) (e : Ending) (w' : World) : Prop :=
  ∃ cd, e = .returned (.int .i64 cd) ∧ (cd = 0 ↔ fineAll kindI zsI 11 k F O ∧ fineAll kindC zsC (11 + k) k F O ∧ fineAll kindF zsF (11 + k + k) k F O) ∧ L17 S w' li lc lf d k F O [] ∧ Upd S w w'
set_option maxRecDepth 100000 in
set_option maxHeartbeats 1000000 in
theorem check_ok (h : L17 S w li lc lf d k F O []) : Calls Tryz.prog 19 #[.agg #[ptr li, ptr lc, ptr lf]] w (CheckOut S w li lc lf d k F O) := by
  have hu : Upd (fun _ => False) w (w.alloc (.cells #[ptr li, ptr lc, ptr lf] 28)) := (Upd.refl _ w).alloc _
  have hg := heap_alloc_last w (.cells #[ptr li, ptr lc, ptr lf] 28) rfl
  have hb := h.box (.cells #[ptr li, ptr lc, ptr lf] 28)
  obtain ⟨B, hB⟩ : ∃ B : Nat → Prop, B = fun j => S j ∧ j ≠ w.heap.size := ⟨_, rfl⟩
  rw [← hB] at hb
  have hBS : ∀ j, B j → S j := fun j hj => by rw [hB] at hj; exact hj.1
  have hBw : ¬ B w.heap.size := fun hj => by rw [hB] at hj; exact hj.2 rfl
  have H := Lib.hid (And.intro h (And.intro hBS hBw))
  clear h hB hBS hBw
  go_enter Tryz.func19, Tryz.ntmps19
  go_wp2_with fail
  change Calls _ _ _ (w.alloc (.cells #[ptr li, ptr lc, ptr lf] 28)) _
  generalize w.alloc (.cells #[ptr li, ptr lc, ptr lf] 28) = w1 at *
  refine (saidI hb).mono ?_
  rintro e w2 ⟨v2, cd2, rfl, hc2, hl2, hu2⟩
  have g2 := (hu2.block _ (lt_of_block hg) H.out.2.2).trans hg
  have c2 : w2.cell? ⟨w.heap.size, 1, none⟩ = some (ptr lc) := cell_of_block g2 1
  have U2 : Upd S w w2 := (hu.mono (fun _ _ h => h.elim)).trans (hu2.mono (fun j _ hj => H.out.2.1 j hj))
  have H2 := Lib.hid (And.intro hc2 (And.intro hl2 (And.intro g2 U2)))
  clear hc2 hl2 g2 U2 hb hu hg hu2
  by_cases h20 : cd2 = 0
  · subst h20
    go_wp2_with fail
    refine (saidC H2.out.2.1).mono ?_
    rintro e w3 ⟨v3, cd3, rfl, hc3, hl3, hu3⟩
    have g3 := (hu3.block _ (lt_of_block H2.out.2.2.1) H.out.2.2).trans H2.out.2.2.1
    have c3 : w3.cell? ⟨w.heap.size, 2, none⟩ = some (ptr lf) := cell_of_block g3 2
    have U3 : Upd S w w3 := H2.out.2.2.2.trans (hu3.mono (fun j _ hj => H.out.2.1 j hj))
    have H3 := Lib.hid (And.intro hc3 (And.intro hl3 (And.intro g3 U3)))
    clear hc3 hl3 g3 U3 hu3 c2
    by_cases h30 : cd3 = 0
    · subst h30
      go_wp2_with fail
      refine (saidF H3.out.2.1).mono ?_
      rintro e w4 ⟨v4, cd4, rfl, hc4, hl4, hu4⟩
      have U4 : Upd S w w4 := H3.out.2.2.2.trans (hu4.mono (fun j _ hj => H.out.2.1 j hj))
      have H4 := Lib.hid (And.intro hc4 (And.intro hl4 U4))
      clear hc4 hl4 U4 hu4 c3
      go_wp2
      go_ret
      exact ⟨cd4, rfl, ⟨fun e => ⟨H2.out.1.1 trivial, H3.out.1.1 trivial, H4.out.1.1 e⟩, fun e => H4.out.1.2 e.2.2⟩, H.out.1.turn H4.out.2.2 (H4.out.2.1.dv.wide H.out.2.1) rfl, H4.out.2.2⟩
    · have q : (cd3 == 0) = false := by simpa using h30
      have q2 : (cd3 != 0) = true := by simpa using h30
      have HN := Lib.hid h30
      clear h30 c3
      go_wp2
      go_ret
      exact ⟨cd3, rfl, ⟨fun e => (HN.out e).elim, fun e => (HN.out (H3.out.1.2 e.2.1)).elim⟩, H.out.1.turn H3.out.2.2.2 (H3.out.2.1.dv.wide H.out.2.1) rfl, H3.out.2.2.2⟩
  · have q : (cd2 == 0) = false := by simpa using h20
    have q2 : (cd2 != 0) = true := by simpa using h20
    have HN := Lib.hid h20
    clear h20 c2
    go_wp2
    go_ret
    exact ⟨cd2, rfl, ⟨fun e => (HN.out e).elim, fun e => (HN.out (H2.out.1.2 e.1)).elim⟩, H.out.1.turn H2.out.2.2.2 (H2.out.2.1.dv.wide H.out.2.1) rfl, H2.out.2.2.2⟩
end
set_option maxRecDepth 100000 in
theorem cloneDB_any {w : World} {v : Value} {n : Nat} {xs : List Value} (h : Rd w 64 v n xs) (hn : n ≤ 65536) (hone : ∀ u ∈ xs, u.oneCell' = true) :
    Calls Tryz.prog 68 #[v] w fun e w' => ∃ v', e = .returned v' ∧ Sl w' 23 64 v' n xs ∧ From w.heap.size v' ∧ Below w.heap.size w w' := by
  obtain ⟨i0, hi, hz0, hz1, hz2⟩ := info_parts infoBk
  obtain ⟨z0, hz, hzs⟩ : ∃ z, i0.zero = some z ∧ z.cells.size = 64 := ⟨_, hz0, by simp [bkV, Value.cells, zB, bkC]⟩
  clear hz0
  have H := Lib.hid h
  obtain ⟨hl, hm, ao, c, rfl, h0, -⟩ := h
  have q34 := fun (w : World) (a : Option Addr) (n c : Nat) => Lib.run_eql_slice_nil (P := Tryz.prog) w 132 23 a n c 0 0 Tryz.underlying132
  cases ao with
  | none =>
    obtain rfl := h0 rfl
    have hx : Hid (xs = []) := List.eq_nil_of_length_eq_zero (by simpa using hl)
    clear hl h0 hm
    go_enter Tryz.func68, Tryz.ntmps68
    go_wp2
    go_ret
    rw [hx.out]
    exact ⟨_, rfl, Sl.nil _ _ _, From.nil _ _ _, Below.refl _ _⟩
  | some a =>
    clear h0 hl
    have hs0 : Sl (w.alloc (.cells #[] 23)) 23 64 (.slice (some ⟨w.heap.size, 0, none⟩) 0 0) 0 [] :=
      ⟨by simp, .inr ⟨w.heap.size, 0, 0, #[], rfl, heap_alloc_last _ _ rfl, by simp, by simp [maxLen], by simp, by simp⟩⟩
    have HR : Hid (Rd (w.alloc (.cells #[] 23)) 64 (.slice (some a) n c) n xs) := H.out.keep ((Upd.refl (fun _ => False) _).alloc _) (fun _ _ h => h)
    go_enter Tryz.func68, Tryz.ntmps68
    go_wp2_with (at_builtin; refine wpList_append_sl rfl _ _ 132 rfl i0 z0 64 Tryz.underlying132 hi hz hz1 hz2 hzs (by decide) rfl hs0 _ n xs rfl HR.out hone (by unfold maxLen; omega) (by omega) ?_)
    intro v' w2 hs2 hu2 hb2
    go_wp2
    go_ret
    refine ⟨_, rfl, by simpa using hs2, ?_, ?_⟩
    · exact hb2.ge (by simp) (by intro g hg; simp [Value.ownBlock] at hg; omega)
    · refine below_upd ((Below.refl _ _).alloc (Nat.le_refl _) _) hu2 (Nat.le_refl _) (by intro k hk; simp [ownS, Value.ownBlock] at hk; omega)
set_option maxRecDepth 100000 in
theorem cloneDW_any {w : World} {v : Value} {n : Nat} {xs : List Value} (h : Rd w 65 v n xs) (hn : n ≤ 65536) (hone : ∀ u ∈ xs, u.oneCell' = true) :
    Calls Tryz.prog 69 #[v] w fun e w' => ∃ v', e = .returned v' ∧ Sl w' 136 65 v' n xs ∧ From w.heap.size v' ∧ Below w.heap.size w w' := by
  obtain ⟨i0, hi, hzz⟩ := Option.map_eq_some_iff.1 infoWr
  simp only [Prod.mk.injEq] at hzz
  obtain ⟨hz0, hz1, hz2⟩ := hzz
  obtain ⟨z0, hz, hzs⟩ := Option.map_eq_some_iff.1 hz0
  clear hz0
  have H := Lib.hid h
  obtain ⟨hl, hm, ao, c, rfl, h0, -⟩ := h
  have q34 := fun (w : World) (a : Option Addr) (n c : Nat) => Lib.run_eql_slice_nil (P := Tryz.prog) w 131 136 a n c 0 0 Tryz.underlying131
  cases ao with
  | none =>
    obtain rfl := h0 rfl
    have hx : Hid (xs = []) := List.eq_nil_of_length_eq_zero (by simpa using hl)
    clear hl h0 hm
    go_enter Tryz.func69, Tryz.ntmps69
    go_wp2
    go_ret
    rw [hx.out]
    exact ⟨_, rfl, Sl.nil _ _ _, From.nil _ _ _, Below.refl _ _⟩
  | some a =>
    clear h0 hl
    have hs0 : Sl (w.alloc (.cells #[] 136)) 136 65 (.slice (some ⟨w.heap.size, 0, none⟩) 0 0) 0 [] :=
      ⟨by simp, .inr ⟨w.heap.size, 0, 0, #[], rfl, heap_alloc_last _ _ rfl, by simp, by simp [maxLen], by simp, by simp⟩⟩
    have HR : Hid (Rd (w.alloc (.cells #[] 136)) 65 (.slice (some a) n c) n xs) := H.out.keep ((Upd.refl (fun _ => False) _).alloc _) (fun _ _ h => h)
    go_enter Tryz.func69, Tryz.ntmps69
    go_wp2_with (at_builtin; refine wpList_append_sl rfl _ _ 131 rfl i0 z0 72 Tryz.underlying131 hi hz hz1 hz2 hzs (by decide) rfl hs0 _ n xs rfl HR.out hone (by unfold maxLen; omega) (by omega) ?_)
    intro v' w2 hs2 hu2 hb2
    go_wp2
    go_ret
    refine ⟨_, rfl, by simpa using hs2, ?_, ?_⟩
    · exact hb2.ge (by simp) (by intro g hg; simp [Value.ownBlock] at hg; omega)
    · refine below_upd ((Below.refl _ _).alloc (Nat.le_refl _) _) hu2 (Nat.le_refl _) (by intro k hk; simp [ownS, Value.ownBlock] at hk; omega)
theorem infoI3 : (Tryz.prog.info? 3).map (fun i => (i.zero.map (·.cells.size), i.size, i.bytes)) = some (some 1, 1, 8) := by kernel_rfl
set_option maxRecDepth 100000 in
theorem cloneDI_any {w : World} {v : Value} {n : Nat} {xs : List Value} (h : Rd w 1 v n xs) (hn : n ≤ 65536) (hone : ∀ u ∈ xs, u.oneCell' = true) :
    Calls Tryz.prog 70 #[v] w fun e w' => ∃ v', e = .returned v' ∧ Sl w' 3 1 v' n xs ∧ From w.heap.size v' ∧ Below w.heap.size w w' := by
  obtain ⟨i0, hi, hzz⟩ := Option.map_eq_some_iff.1 infoI3
  simp only [Prod.mk.injEq] at hzz
  obtain ⟨hz0, hz1, hz2⟩ := hzz
  obtain ⟨z0, hz, hzs⟩ := Option.map_eq_some_iff.1 hz0
  clear hz0
  have H := Lib.hid h
  obtain ⟨hl, hm, ao, c, rfl, h0, -⟩ := h
  have q34 := fun (w : World) (a : Option Addr) (n c : Nat) => Lib.run_eql_slice_nil (P := Tryz.prog) w 100 3 a n c 0 0 Tryz.underlying100
  cases ao with
  | none =>
    obtain rfl := h0 rfl
    have hx : Hid (xs = []) := List.eq_nil_of_length_eq_zero (by simpa using hl)
    clear hl h0 hm
    go_enter Tryz.func70, Tryz.ntmps70
    go_wp2
    go_ret
    rw [hx.out]
    exact ⟨_, rfl, Sl.nil _ _ _, From.nil _ _ _, Below.refl _ _⟩
  | some a =>
    clear h0 hl
    have hs0 : Sl (w.alloc (.cells #[] 3)) 3 1 (.slice (some ⟨w.heap.size, 0, none⟩) 0 0) 0 [] :=
      ⟨by simp, .inr ⟨w.heap.size, 0, 0, #[], rfl, heap_alloc_last _ _ rfl, by simp, by simp [maxLen], by simp, by simp⟩⟩
    have HR : Hid (Rd (w.alloc (.cells #[] 3)) 1 (.slice (some a) n c) n xs) := H.out.keep ((Upd.refl (fun _ => False) _).alloc _) (fun _ _ h => h)
    go_enter Tryz.func70, Tryz.ntmps70
    go_wp2_with (at_builtin; refine wpList_append_sl rfl _ _ 100 rfl i0 z0 8 Tryz.underlying100 hi hz hz1 hz2 hzs (by decide) rfl hs0 _ n xs rfl HR.out hone (by unfold maxLen; omega) (by omega) ?_)
    intro v' w2 hs2 hu2 hb2
    go_wp2
    go_ret
    refine ⟨_, rfl, by simpa using hs2, ?_, ?_⟩
    · exact hb2.ge (by simp) (by intro g hg; simp [Value.ownBlock] at hg; omega)
    · refine below_upd ((Below.refl _ _).alloc (Nat.le_refl _) _) hu2 (Nat.le_refl _) (by intro k hk; simp [ownS, Value.ownBlock] at hk; omega)
theorem rowC_oneD (F : List Bk) : ∀ u ∈ rowC F, u.oneCell' = true := by
  intro u hu
  simp only [rowC, List.mem_flatMap] at hu
  obtain ⟨x, -, hx⟩ := hu
  exact bkC_one x u hx
theorem opC_oneD (O : List (Nat × Bk)) : ∀ u ∈ opC O, u.oneCell' = true := by
  intro u hu
  simp only [opC, List.mem_flatMap, List.mem_cons] at hu
  obtain ⟨x, -, rfl | hx⟩ := hu
  · rfl
  · exact bkC_one _ u hx
theorem ints_oneD (P : List Int) : ∀ u ∈ ints P, u.oneCell' = true := by
  intro u hu
  simp only [ints, List.mem_map] at hu
  obtain ⟨x, -, rfl⟩ := hu
  rfl
def CopyOut (w : World) (F : List Bk) (O : List (Nat × Bk)) (P : List Int) (e : Ending) (w' : World) : Prop :=
  ∃ b, e = .returned (.pointer (some ⟨b, 0, none⟩)) ∧ Dv (fun j => w.heap.size ≤ j) w' b F O P ∧ Below w.heap.size w w'
set_option maxRecDepth 100000 in
set_option maxHeartbeats 2000000 in
theorem dcopy {S : Nat → Prop} {w : World} {b : Nat} {F : List Bk} {O : List (Nat × Bk)} {P : List Int} (h : Dv S w b F O P) :
    Calls Tryz.prog 22 #[.pointer (some ⟨b, 0, none⟩)] w (CopyOut w F O P) := by
  obtain ⟨vf, vo, vp, h, -⟩ := h
  obtain ⟨c0, c1, c2⟩ := h.c
  have hbl : b < w.heap.size := lt_of_block h.str
  have H := Lib.hid h
  clear h
  go_enter Tryz.func22, Tryz.ntmps22
  go_wp2
  refine wp_region_held_drew (S := fun W => W.cell? ⟨b, 0, none⟩ = some vf ∧ W.cell? ⟨b, 1, none⟩ = some vo ∧ W.cell? ⟨b, 2, none⟩ = some vp) (by kernel_rfl) (by (simp only [World.cell?_drew]); exact ⟨c0, c1, c2⟩) (fun hHeld => ?_)
  refine wpAnyH_take (i := 0) (v := ?_) rfl (by kernel_rfl) (by kernel_rfl) (by kernel_rfl) (fun _ _ _ h => h) (Or.inl ⟨by rfl, ?_⟩) hHeld ?_
  rotate_left
  · intro W hSw; (try dsimp only at hSw); (try go_split_ands); go_simp; (try with_reducible rfl)
  simp only [List.getElem_toArray, List.getElem_cons_zero, Act.put, List.setIfInBounds_toArray, List.set_cons_zero, List.set_cons_succ]
  refine wpAnyH_take (i := 1) (v := ?_) rfl (by kernel_rfl) (by kernel_rfl) (by kernel_rfl) (fun _ _ _ h => h) (Or.inl ⟨by rfl, ?_⟩) hHeld ?_
  rotate_left
  · intro W hSw; (try dsimp only at hSw); (try go_split_ands); go_simp; (try with_reducible rfl)
  simp only [List.getElem_toArray, List.getElem_cons_succ, List.getElem_cons_zero, Act.put, List.setIfInBounds_toArray, List.set_cons_zero, List.set_cons_succ]
  refine wpAnyH_take (i := 2) (v := ?_) rfl (by kernel_rfl) (by kernel_rfl) (by kernel_rfl) (fun _ _ _ h => h) (Or.inl ⟨by rfl, ?_⟩) hHeld ?_
  rotate_left
  · intro W hSw; (try dsimp only at hSw); (try go_split_ands); go_simp; (try with_reducible rfl)
  simp only [List.getElem_toArray, List.getElem_cons_succ, List.getElem_cons_zero, Act.put, List.setIfInBounds_toArray, List.set_cons_zero, List.set_cons_succ]
  refine wpAnyH_take (i := 3) (v := ?_) rfl (by kernel_rfl) (by kernel_rfl) (by kernel_rfl) (fun _ _ _ h => h) (Or.inl ⟨by rfl, ?_⟩) hHeld ?_
  rotate_left
  · intro W hSw; (try dsimp only at hSw); (try go_split_ands); go_simp; (try with_reducible rfl)
  simp only [List.getElem_toArray, List.getElem_cons_succ, List.getElem_cons_zero, Act.put, List.setIfInBounds_toArray, List.set_cons_zero, List.set_cons_succ]
  refine wpAnyH_take (i := 5) (v := ?_) rfl (by kernel_rfl) (by kernel_rfl) (by kernel_rfl) (fun _ _ _ h => h) (Or.inl ⟨by rfl, ?_⟩) hHeld ?_
  rotate_left
  · intro W hSw; (try dsimp only at hSw); (try go_split_ands); go_simp; (try with_reducible rfl)
  simp only [List.getElem_toArray, List.getElem_cons_succ, List.getElem_cons_zero, Act.put, List.setIfInBounds_toArray, List.set_cons_zero, List.set_cons_succ]
  refine wpAnyH_take (i := 6) (v := ?_) rfl (by kernel_rfl) (by kernel_rfl) (by kernel_rfl) (fun _ _ _ h => h) (Or.inl ⟨by rfl, ?_⟩) hHeld ?_
  rotate_left
  · intro W hSw; (try dsimp only at hSw); (try go_split_ands); go_simp; (try with_reducible rfl)
  simp only [List.getElem_toArray, List.getElem_cons_succ, List.getElem_cons_zero, Act.put, List.setIfInBounds_toArray, List.set_cons_zero, List.set_cons_succ]
  refine wpAnyH_take (i := 7) (v := ?_) rfl (by kernel_rfl) (by kernel_rfl) (by kernel_rfl) (fun _ _ _ h => h) (Or.inl ⟨by rfl, ?_⟩) hHeld ?_
  rotate_left
  · intro W hSw; (try dsimp only at hSw); (try go_split_ands); go_simp; (try with_reducible rfl)
  simp only [List.getElem_toArray, List.getElem_cons_succ, List.getElem_cons_zero, Act.put, List.setIfInBounds_toArray, List.set_cons_zero, List.set_cons_succ]
  refine wpAnyH_take (i := 8) (v := ?_) rfl (by kernel_rfl) (by kernel_rfl) (by kernel_rfl) (fun _ _ _ h => h) (Or.inl ⟨by rfl, ?_⟩) hHeld ?_
  rotate_left
  · intro W hSw; (try dsimp only at hSw); (try go_split_ands); go_simp; (try with_reducible rfl)
  simp only [List.getElem_toArray, List.getElem_cons_succ, List.getElem_cons_zero, Act.put, List.setIfInBounds_toArray, List.set_cons_zero, List.set_cons_succ]
  refine wpAnyH_take (i := 10) (v := ?_) rfl (by kernel_rfl) (by kernel_rfl) (by kernel_rfl) (fun _ _ _ h => h) (Or.inl ⟨by rfl, ?_⟩) hHeld ?_
  rotate_left
  · intro W hSw; (try dsimp only at hSw); (try go_split_ands); go_simp; (try with_reducible rfl)
  simp only [List.getElem_toArray, List.getElem_cons_succ, List.getElem_cons_zero, Act.put, List.setIfInBounds_toArray, List.set_cons_zero, List.set_cons_succ]
  refine wpAnyH_take (i := 11) (v := ?_) rfl (by kernel_rfl) (by kernel_rfl) (by kernel_rfl) (fun _ _ _ h => h) (Or.inl ⟨by rfl, ?_⟩) hHeld ?_
  rotate_left
  · intro W hSw; (try dsimp only at hSw); (try go_split_ands); go_simp; (try with_reducible rfl)
  simp only [List.getElem_toArray, List.getElem_cons_succ, List.getElem_cons_zero, Act.put, List.setIfInBounds_toArray, List.set_cons_zero, List.set_cons_succ]
  refine wpAnyH_take (i := 12) (v := ?_) rfl (by kernel_rfl) (by kernel_rfl) (by kernel_rfl) (fun _ _ _ h => h) (Or.inl ⟨by rfl, ?_⟩) hHeld ?_
  rotate_left
  · intro W hSw; (try dsimp only at hSw); (try go_split_ands); go_simp; (try with_reducible rfl)
  simp only [List.getElem_toArray, List.getElem_cons_succ, List.getElem_cons_zero, Act.put, List.setIfInBounds_toArray, List.set_cons_zero, List.set_cons_succ]
  refine wpAnyH_take (i := 13) (v := ?_) rfl (by kernel_rfl) (by kernel_rfl) (by kernel_rfl) (fun _ _ _ h => h) (Or.inl ⟨by rfl, ?_⟩) hHeld ?_
  rotate_left
  · intro W hSw; (try dsimp only at hSw); (try go_split_ands); go_simp; (try with_reducible rfl)
  simp only [List.getElem_toArray, List.getElem_cons_succ, List.getElem_cons_zero, Act.put, List.setIfInBounds_toArray, List.set_cons_zero, List.set_cons_succ]
  have hud : Upd (fun _ => False) w w.drew := (Upd.refl _ w).drew
  refine wpAnyH_ready (rs := [4]) (by kernel_rfl) (by simp) ?_
  refine AllReadyH.cons rfl (fun K hK => ?_) AllReadyH.nil
  go_simp
  refine (cloneDB_any (H.out.fs.rd.keep hud (fun _ _ h => h)) (by have := H.out.good.fl; omega) (rowC_oneD F)).mono ?_
  rintro e w1 ⟨v1, rfl, s1, f1, b1⟩
  obtain ⟨a1, k1, rfl⟩ := s1.rd.nil_iff
  refine hK.out _ _ ((have hU := Upd.of_below (S := fun _ => False) b1; ⟨hU.cellv hHeld.1 (fun h => h), hU.cellv hHeld.2.1 (fun h => h), hU.cellv hHeld.2.2 (fun h => h)⟩)) (fun hH1 => ?_)
  clear hK K
  have hu1 := Upd.of_below (S := fun _ => False) b1
  refine wpAnyH_ready (rs := [9]) (by kernel_rfl) (by simp) ?_
  refine AllReadyH.cons rfl (fun K hK => ?_) AllReadyH.nil
  go_simp
  refine (cloneDW_any ((H.out.os.rd.keep hud (fun _ _ h => h)).keep hu1 (fun _ _ h => h)) H.out.good.ol (opC_oneD O)).mono ?_
  rintro e w2 ⟨v2, rfl, s2, f2, b2⟩
  obtain ⟨a2, k2, rfl⟩ := s2.rd.nil_iff
  refine hK.out _ _ ((have hU := Upd.of_below (S := fun _ => False) b2; ⟨hU.cellv hH1.1 (fun h => h), hU.cellv hH1.2.1 (fun h => h), hU.cellv hH1.2.2 (fun h => h)⟩)) (fun hH2 => ?_)
  clear hK K
  have hu2 := Upd.of_below (S := fun _ => False) b2
  refine wpAnyH_ready (rs := [14]) (by kernel_rfl) (by simp) ?_
  refine AllReadyH.cons rfl (fun K hK => ?_) AllReadyH.nil
  go_simp
  refine (cloneDI_any (((H.out.ps.rd.keep hud (fun _ _ h => h)).keep hu1 (fun _ _ h => h)).keep hu2 (fun _ _ h => h)) H.out.good.pl (ints_oneD P)).mono ?_
  rintro e w3 ⟨v3, rfl, s3, f3, b3⟩
  obtain ⟨a3, k3, rfl⟩ := s3.rd.nil_iff
  refine hK.out _ _ ((have hU := Upd.of_below (S := fun _ => False) b3; ⟨hU.cellv hH2.1 (fun h => h), hU.cellv hH2.2.1 (fun h => h), hU.cellv hH2.2.2 (fun h => h)⟩)) (fun hH3 => ?_)
  clear hK K
  have hu3 := Upd.of_below (S := fun _ => False) b3
  have z1 := b1.size
  have z2 := b2.size
  have z3 := b3.size
  have zd : w.drew.heap.size = w.heap.size := rfl
  have t3 : Sl w3 23 64 (.slice a1 F.length k1) F.length (rowC F) := (s1.keep hu2 (fun _ _ h => h)).keep hu3 (fun _ _ h => h)
  have t2 : Sl w3 136 65 (.slice a2 O.length k2) O.length (opC O) := s2.keep hu3 (fun _ _ h => h)
  have l1 := fun (g : Nat) (e : (Value.slice a1 F.length k1).ownBlock = some g) => s1.lt e
  have l2 := fun (g : Nat) (e : (Value.slice a2 O.length k2).ownBlock = some g) => s2.lt e
  have l3 := fun (g : Nat) (e : (Value.slice a3 P.length k3).ownBlock = some g) => s3.lt e
  have HS := Lib.hid (And.intro t3 (And.intro t2 (And.intro s3 (And.intro f1 (And.intro f2 (And.intro f3 (And.intro l1 (And.intro l2 (And.intro l3 (And.intro b1 (And.intro b2 b3)))))))))))
  clear t3 t2 s3 f1 f2 f3 l1 l2 l3 b1 b2 b3 s1 s2 hu1 hu2 hu3
  refine wpAnyH_take (i := 15) (v := ?_) rfl (by kernel_rfl) (by kernel_rfl) (by kernel_rfl) (fun _ _ _ h => h) (Or.inl ⟨by rfl, ?_⟩) hH3 ?_
  rotate_left
  · intro W hSw; (try dsimp only at hSw); (try go_split_ands); go_simp; (try with_reducible rfl)
  simp only [List.getElem_toArray, List.getElem_cons_succ, List.getElem_cons_zero, Act.put, List.setIfInBounds_toArray, List.set_cons_zero, List.set_cons_succ]
  refine wpAnyH_ready (rs := [16]) (by kernel_rfl) (by simp) ?_
  refine AllReadyH.cons rfl (fun K hK => ?_) AllReadyH.nil
  go_simp
  show K _ (w3.alloc (.cells #[(.slice a1 F.length k1), (.slice a2 O.length k2), (.slice a3 P.length k3)] 134))
  refine hK.out _ _ (⟨cell_keep_alloc hH3.1 _, cell_keep_alloc hH3.2.1 _, cell_keep_alloc hH3.2.2 _⟩) (fun hH4 => ?_)
  clear hK K
  refine wpAnyH_ready (rs := [17]) (by kernel_rfl) (by simp) ?_
  refine AllReadyH.cons rfl (fun K hK => ?_) AllReadyH.nil
  go_simp
  refine hK.out _ _ (hH4) (fun _ => ?_)
  clear hK K
  refine wpAnyH_done (by kernel_rfl) ?_ _
  clear hHeld hH1 hH2 hH3 hH4 c0 c1 c2 hud
  go_wp2
  go_ret
  obtain ⟨t1, t2, t3, f1, f2, f3, l1, l2, l3, b1, b2, b3⟩ := HS.out
  have hA : Upd (fun _ => False) w3 (w3.alloc (.cells #[(.slice a1 F.length k1), (.slice a2 O.length k2), (.slice a3 P.length k3)] 134)) := (Upd.refl _ _).alloc _
  refine ⟨w3.heap.size, rfl, ⟨(.slice a1 F.length k1), (.slice a2 O.length k2), (.slice a3 P.length k3), ⟨heap_alloc_last _ _ rfl, t1.keep hA (fun _ _ h => h), t2.keep hA (fun _ _ h => h), t3.keep hA (fun _ _ h => h), H.out.good, fun e => ?_, fun e => ?_, fun e => ?_, fun g p q => ?_, fun g p q => ?_, fun g p q => ?_⟩, fun j hj => ?_⟩, ?_⟩
  · have := l1 _ e; omega
  · have := l2 _ e; omega
  · have := l3 _ e; omega
  · have := l1 g p; have := f2 g q; omega
  · have := l1 g p; have := f3 g q; omega
  · have := l2 g p; have := f3 g q; omega
  · rcases hj with rfl | hj | hj | hj
    · show w.heap.size ≤ w3.heap.size; omega
    · have := f1 j hj; show w.heap.size ≤ j; omega
    · have := f2 j hj; show w.heap.size ≤ j; omega
    · have := f3 j hj; show w.heap.size ≤ j; omega
  · exact (bundrew' ((b1.trans (b2.mono z1)).trans (b3.mono (by omega)))).alloc (by omega) _
theorem wpList_load_midW {P : Program} {ops : Array Oper} {rest : List Oper} {op : Oper} {a : Act} {w : World} {Q : Exit → Act → World → Prop} (hw : Region.wanted op (yielded ops a.tmps) = true) (ty : TypeId) (x : Operand) (ho : op.op = .load ty x)
    (b o : Nat) (hx : a.eval x = .pointer (some ⟨b, o, none⟩)) (cs : List Value) (d : TypeDesc) (hc : w.rangeAt b o cs)
    (hu : P.underlying ty = some d) (hd : d.isRow = true) (hi : (P.info? ty).map (·.size) = some cs.length)
    (h : wpList P ops Q rest (a.put op.dst (.agg cs.toArray)) w) : wpList P ops Q (op :: rest) a w :=
  wpList_step fun K hK => by rw [if_pos hw]; exact wp_load_mid ty x ho b o hx cs d hc hu hd hi (hK _ _ h)
section
variable {S : Nat → Prop} {w w' : World} {li lc lf d k : Nat} {F : List Bk} {O : List (Nat × Bk)} {P : List Int}
theorem L17.beside (h : L17 S w li lc lf d k F O P) (hb : Below w.heap.size w w') : L17 (fun j => S j ∧ ¬ (w.heap.size ≤ j ∧ j < w'.heap.size)) w' li lc lf d k F O P :=
  have hu : Upd (fun _ => False) w w' := Upd.of_below hb
  { h.new hu with
    dv := (h.dv.out (fun j hj hs => ⟨hs, fun e => by omega⟩)).new hu
    nS := fun j hj => ⟨h.nS j (Nat.le_trans hb.size hj), fun e => by omega⟩
    iS := fun hs => h.iS hs.1
    cS := fun hs => h.cS hs.1
    fS := fun hs => h.fS hs.1
    nibS := fun hs => h.nibS hs.1 }
end
theorem apart_put {mb : Bool} {base k : Nat} {a : Int} {y : Bk} (h1 : 11 ≤ base) (h2 : base + k ≤ 13 + 3 * k) (hk : k ≤ 12) (hmb : mb = true ↔ 0 ≤ a ∧ a ≤ 1099511627776) (hy : mb = true → y ≠ zB) :
    (0 ≤ a ∧ a < (k : Int) → logPutR mb base k a y (devL k) [] [] = ⟨(devL k).set (base + a.toNat) y, [], [], 0⟩) ∧
    (¬ (0 ≤ a ∧ a < (k : Int)) → ∃ cd : Int, cd ≠ 0 ∧ logPutR mb base k a y (devL k) [] [] = ⟨devL k, [], [], cd⟩) := by
  refine ⟨fun ha => ?_, fun ha => ?_⟩
  · have hm : mb = true := hmb.2 ⟨ha.1, by omega⟩
    have hg : (devL k).getD (base + a.toNat) zB = zB := by
      rw [List.getD_eq_getElem?_getD, devL_zero k _ (by omega) (by omega)]; rfl
    unfold logPutR
    rw [if_neg (by rw [hm]; simp), if_neg (by omega), putR_go, if_neg (by rw [hg]; exact fun e => hy hm e.symm), if_neg (by rw [hg]; simp)]
  · unfold logPutR
    by_cases hm : mb = false
    · exact ⟨10, by decide, if_pos hm⟩
    · rw [if_neg hm, if_pos (by have := hmb.1 (by simpa using hm); omega)]
      exact ⟨17, by decide, rfl⟩
theorem mayI_span {a : Int} : mayI [a, 0, 2, 3] = true ↔ 0 ≤ a ∧ a ≤ 1099511627776 := by
  rw [mayI_iff]; omega
theorem mayT_span {a : Int} : mayT [a, 0, 2, 3, 0, 0] = true ↔ 0 ≤ a ∧ a ≤ 1099511627776 := by
  rw [mayT_iff]; omega
theorem mayF_span {a : Int} : mayF [a, 0, 2, 3, 1, 0, 0, 0, 0, 0, 0, 0, 0] = true ↔ 0 ≤ a ∧ a ≤ 1099511627776 := by
  have h1 : spanB 2 3 = true := by decide
  have h2 : secB 1 [0, 0, 0, 0, 0, 0, 0, 0] = true := by decide
  have e : mayF [a, 0, 2, 3, 1, 0, 0, 0, 0, 0, 0, 0, 0] = (withinB bndF [a, 0, 2, 3, 1, 0, 0, 0, 0, 0, 0, 0, 0] && spanB 2 3 && secB 1 [0, 0, 0, 0, 0, 0, 0, 0]) := rfl
  rw [e, h1, h2]
  simp [withinB, bndF, inB]
theorem yI_ne {a : Int} (h : mayI [a, 0, 2, 3] = true) : intentB a.toNat (0 : Int).toNat (2 : Int).toNat (3 : Int).toNat ≠ zB := by
  have := mayI_span.1 h
  exact sect_ne (by decide) (by decide) (intent_fits (by omega) (by decide) (by decide) (by decide))
theorem yT_ne {a : Int} (h : mayT [a, 0, 2, 3, 0, 0] = true) : certB a.toNat (0 : Int).toNat (2 : Int).toNat (3 : Int).toNat (0 : Int).toNat (0 : Int).toNat ≠ zB := by
  have := mayT_span.1 h
  exact sect_ne (by decide) (by decide) (cert_fits (by omega) (by decide) (by decide) (by decide) (by decide) (by decide))
theorem yF_ne {a : Int} (h : mayF [a, 0, 2, 3, 1, 0, 0, 0, 0, 0, 0, 0, 0] = true) : sectF [a, 0, 2, 3, 1, 0, 0, 0, 0, 0, 0, 0, 0] ≠ zB :=
  sect_ne (by decide) (by decide) (mayF_fits rfl h).2
def ApartOut (S : Nat → Prop) (w : World) (li lc lf d k m : Nat) (a : Int) (e : Ending) (w' : World) : Prop :=
  ∃ (cd : Int) (F' : List Bk), e = .returned (.int .i64 cd) ∧ L17 S w' li lc lf d k F' [] [] ∧ Upd S w w' ∧
    ((0 ≤ a ∧ a < (k : Int) ∧ cd = 0 ∧ ∃ y, y ≠ zB ∧ F' = (devL k).set (11 + m * k + a.toNat) y) ∨ (¬ (0 ≤ a ∧ a < (k : Int)) ∧ cd ≠ 0 ∧ F' = devL k))
theorem apart_of {S : Nat → Prop} {w w' : World} {li lc lf d k m base : Nat} {mb : Bool} {a : Int} {y : Bk} {e : Ending} (hm : m ≤ 2) (hb : base = 11 + m * k) (hk : k ≤ 12) (hmb : mb = true ↔ 0 ≤ a ∧ a ≤ 1099511627776) (hy : mb = true → y ≠ zB)
    (h : LOut S w li lc lf d k (logPutR mb base k a y (devL k) [] []) e w') : ApartOut S w li lc lf d k m a e w' := by
  have hle : base + k ≤ 13 + 3 * k := by
    have : m = 0 ∨ m = 1 ∨ m = 2 := by omega
    rcases this with rfl | rfl | rfl <;> omega
  obtain ⟨p1, p2⟩ := apart_put (a := a) (y := y) (show 11 ≤ base by omega) hle hk hmb hy
  obtain ⟨he, hl, hu⟩ := h
  by_cases ha : 0 ≤ a ∧ a < (k : Int)
  · rw [p1 ha] at he hl
    exact ⟨0, _, he, hl, hu, .inl ⟨ha.1, ha.2, rfl, y, hy (hmb.2 ⟨ha.1, by omega⟩), by rw [hb]⟩⟩
  · obtain ⟨cd, hc, hr⟩ := p2 ha
    rw [hr] at he hl
    exact ⟨cd, _, he, hl, hu, .inr ⟨ha, hc, rfl⟩⟩
section
variable {S : Nat → Prop} {w : World} {li lc lf d k : Nat}
theorem apart0 (h : L17 S w li lc lf d k (devL k) [] []) (hk : k ≤ 12) (a : Int) : Calls Tryz.prog 23 #[ptr li, .agg #[.int .i64 a, .int .i64 0, .int .i64 2, .int .i64 3]] w (ApartOut S w li lc lf d k 0 a) :=
  (l17_put h (by simp) a 0 2 3).mono fun _ _ ho => apart_of (by decide) (by omega) hk mayI_span yI_ne ho
theorem apart1 (h : L17 S w li lc lf d k (devL k) [] []) (hk : k ≤ 12) (a : Int) : Calls Tryz.prog 24 #[ptr lc, .agg #[.int .i64 a, .int .i64 0, .int .i64 2, .int .i64 3, .int .i64 0, .int .i64 0]] w (ApartOut S w li lc lf d k 1 a) :=
  (l17_putC h (by simp) a 0 2 3 0 0).mono fun _ _ ho => apart_of (by decide) (by omega) hk mayT_span yT_ne ho
theorem apart2 (h : L17 S w li lc lf d k (devL k) [] []) (hk : k ≤ 12) (a : Int) : Calls Tryz.prog 25 #[ptr lf, .agg (ints [a, 0, 2, 3, 1, 0, 0, 0, 0, 0, 0, 0, 0]).toArray] w (ApartOut S w li lc lf d k 2 a) :=
  (l17_putF h (by simp) a [0, 2, 3, 1, 0, 0, 0, 0, 0, 0, 0, 0] rfl).mono fun _ _ ho => apart_of (by decide) (by omega) hk mayF_span yF_ne ho
end
theorem asize {S : Nat → Prop} {w W : World} {li lc lf d k : Nat} {F : List Bk} {O : List (Nat × Bk)} {P : List Int} (h : L17 S w li lc lf d k F O P) (hb : Below w.heap.size w W) :
    Calls Tryz.prog 27 #[ptr d] W fun e w' => e = .returned (.int .i64 ((13 + 3 * k : Nat) : Int)) ∧ w' = W := by
  have := dsize (h.dv.below hb)
  rw [h.fl] at this
  exact this
theorem afirm {S : Nat → Prop} {W : World} {d : Nat} {F : List Bk} {O : List (Nat × Bk)} {P : List Int} (h : Dv S W d F O P) {i : Nat} (hi : i < F.length) :
    Calls Tryz.prog 28 #[ptr d, .int .i64 (i : Int)] W fun e w' => e = .returned (.tuple #[.agg (bkC (F.getD i zB)).toArray, .int .i64 0]) ∧ Below W.heap.size W w' :=
  (dfirm h (i : Int)).mono fun e w' hp => by
    have h0 : hasC F.length (i : Int) = 0 := by unfold hasC; (repeat' split) <;> first | rfl | (exfalso; omega)
    rcases hp with ⟨h1, -⟩ | ⟨-, he, hb⟩
    · exact (h1 h0).elim
    · rw [Int.toNat_natCast] at he
      exact ⟨he, hb⟩
theorem arow {S : Nat → Prop} {W : World} {d : Nat} {F : List Bk} {O : List (Nat × Bk)} {P : List Int} (h : Dv S W d F O P) {i : Nat} : (F.getD i zB).length = 64 := by
  by_cases hi : i < F.length
  · rw [List.getD_eq_getElem?_getD, List.getElem?_eq_getElem hi]; exact h.good.f64 _ (List.getElem_mem hi)
  · rw [List.getD_eq_getElem?_getD, List.getElem?_eq_none (by omega)]; exact zB_len
theorem apart_rows {k m : Nat} {a : Int} {cd : Int} {F' : List Bk} (hm : m ≤ 2) (h : (0 ≤ a ∧ a < (k : Int) ∧ cd = 0 ∧ ∃ y, y ≠ zB ∧ F' = (devL k).set (11 + m * k + a.toNat) y) ∨ (¬ (0 ≤ a ∧ a < (k : Int)) ∧ cd ≠ 0 ∧ F' = devL k)) (own : Int) (hown : cd = 0 → own = 11 + (m : Int) * k + a) (i : Nat) :
    (!((devL k).getD i zB == F'.getD i zB)) = ((cd == 0) && ((i : Int) == own)) ∨ 13 + 3 * k ≤ i := by
  by_cases hi : 13 + 3 * k ≤ i
  · exact .inr hi
  left
  rcases h with ⟨h0, h1, rfl, y, hy, rfl⟩ | ⟨-, hc, rfl⟩
  · have ho := hown rfl
    have hlt : 11 + m * k + a.toNat < 13 + 3 * k := by
      have : m = 0 ∨ m = 1 ∨ m = 2 := by omega
      rcases this with rfl | rfl | rfl <;> omega
    have hcast : ((11 + m * k + a.toNat : Nat) : Int) = own := by rw [ho]; push_cast; omega
    by_cases he : i = 11 + m * k + a.toNat
    · have hz : (devL k).getD i zB = zB := by rw [List.getD_eq_getElem?_getD, devL_zero k i (by omega) (by omega)]; rfl
      have hy2 : ((devL k).set (11 + m * k + a.toNat) y).getD i zB = y := by
        rw [List.getD_eq_getElem?_getD, he, List.getElem?_set_self (by rw [devL_len]; omega)]; rfl
      rw [hz, hy2]
      have e1 : (zB == y) = false := by simpa using fun e => hy e.symm
      have e2 : ((i : Int) == own) = true := by simp; omega
      rw [e1, e2]; rfl
    · have hy2 : ((devL k).set (11 + m * k + a.toNat) y).getD i zB = (devL k).getD i zB := by
        rw [List.getD_eq_getElem?_getD, List.getD_eq_getElem?_getD, List.getElem?_set_ne (fun e => he e.symm)]
      rw [hy2]
      have e2 : ((i : Int) == own) = false := by simp; omega
      rw [e2]; simp
  · have e1 : (cd == 0) = false := by simpa using hc
    rw [e1]; simp
end Go.Proofs.YtnadilfobmgebaaGreatDoor
