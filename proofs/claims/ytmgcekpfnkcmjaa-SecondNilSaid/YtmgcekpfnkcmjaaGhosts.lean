/- The law's 'ghosts': all ghosts. -/
import Derived.Test.YtmgcekpfnkcmjaaKeys
namespace Go.Proofs.Ytmgcekpfnkcmjaa
open Go Go.RowKit Go.Shelf
attribute [local go_sem] Oper.semAt_some

/-- A slice that holds what came, in a box. -/
def boxes1 (M : Nat) (pre : List Int) (W : World) : Prop := ∃ v, Boxed W M 45 v ∧ W.ownsRow M 3 1 v pre.length (ints pre)
theorem boxes1_own (M : Nat) : Own (boxes1 M) := by
  rintro s X Y row ⟨v, h1, h3⟩ hg hr
  exact ⟨v, boxed_kept h1 hg hr, row_kept h3 hg hr⟩
/-- What ghosts answers. -/
def GhostsPost (w : World) (L : List Int) (e : Ending) (w' : World) : Prop :=
  ∃ v, e = .returned (.tuple #[v, .bool true]) ∧ Sl w' 3 1 v L.length (ints L) ∧ From w.heap.size v ∧ Below w.heap.size w w'

set_option maxRecDepth 100000 in
set_option maxHeartbeats 8000000 in
theorem ghosts_of (p : Option Addr) (L : List Int) (hlen : L.length ≤ 1024) (wo : World)
    (hall : ∀ W, Below wo.heap.size wo W → Calls Try.prog 76 #[.pointer p] W fun e w' => ∃ gf lb, e = .returned (.func (.func gf) #[] lb) ∧ GivesE encI w' gf lb L ∧ Below W.heap.size W w') :
    Calls Try.prog 40 #[.pointer p] wo (GhostsPost wo L) := by
  have qf := eql_func_nilI
  have HALL := Lib.hid hall
  clear hall
  have hBo : Below wo.heap.size wo ((wo.alloc (.cells #[.slice none 0 0] 45)).alloc (.cells #[.bool false] 4)) := ((Below.refl _ wo).alloc (Nat.le_refl _) _).alloc (by simp) _
  have hr0 : ((wo.alloc (.cells #[.slice none 0 0] 45)).alloc (.cells #[.bool false] 4)).heap[wo.heap.size]? = some (.cells #[.slice none 0 0] 45 (0, 0)) :=
    (Below.heap_alloc _ _ _ (by simp)).trans (heap_alloc_last wo _ rfl)
  have hr1 : ((wo.alloc (.cells #[.slice none 0 0] 45)).alloc (.cells #[.bool false] 4)).heap[wo.heap.size + 1]? = some (.cells #[.bool false] 4 (0, 0)) :=
    heap_alloc_last (wo.alloc _) _ (by simp)
  have hzo : ((wo.alloc (.cells #[.slice none 0 0] 45)).alloc (.cells #[.bool false] 4)).heap.size = wo.heap.size + 2 := by simp
  refine (callsIn_wide (n := 4)).1 ?_
  refine callsIn_of_wp_marks Try.func40 rfl trivial ?_ rfl
  simp only [Try.ntmps40, List.size_toArray, List.length_cons, List.length_nil, Nat.reduceAdd, Nat.reduceSub, Array.replicate_succ, Array.replicate_zero, List.push_toArray, List.append_toArray, List.nil_append, List.cons_append]
  refine wpIn_wide.2 ?_
  go_wp2_with fail
  generalize ((wo.alloc (.cells #[.slice none 0 0] 45)).alloc (.cells #[.bool false] 4)) = w at *
  have HR := Lib.hid (And.intro hr0 hr1)
  have HBo := Lib.hid hBo
  clear hr0 hr1 hBo
  refine (HALL.out w HBo.out).mono ?_
  rintro e w1 ⟨g1, lb1, rfl, hg1, hb1⟩
  have HG1 := Lib.hid hg1
  have HB1 := Lib.hid hb1
  clear hg1 hb1
  obtain ⟨wz, rfl⟩ : ∃ wz : World, wz = w1 := ⟨_, rfl⟩
  obtain ⟨i0, hi, hz0, hz1, hz2⟩ := info_parts infoI07
  have hbz0 : Below wz.heap.size wz (wz.alloc (.cells #[.slice none 0 0] 45)) := (Below.refl _ wz).alloc (Nat.le_refl _) _
  have hbx0 : boxes1 wz.heap.size [] (wz.alloc (.cells #[.slice none 0 0] 45)) := ⟨_, Boxed.new wz _ _, World.ownsRow_nil _ _ _ _⟩
  go_wp2
  refine (wpIn_wide (n := 4)).1 ?_
  refine' wpIn_rangeFunc_ownH rfl (by omega) (gf := g1) (lb := lb1) rfl trivial HG1.out.1
    (HG1.out.2 3 (by omega) (fun j => wz.heap.size ≤ j) (fun j h => h) _ hbz0) upd_t (fun W l o o' hl => upd_b (M := wz.heap.size) (fun j h => h) W l o o' (by simp at hl; omega)) (Below.refl _ _) (fun _ => rfl)
    (fun pre W => boxes1 wz.heap.size pre W ∧ Below wz.heap.size wz W)
    (fun _ _ _ => False)
    (OwnFrom.and (Own.from (boxes1_own wz.heap.size) _) (ownFrom_below (Nat.le_refl _) (by simp)))
    (fun _ _ _ _ _ hs _ _ => hs)
    ⟨hbx0, hbz0⟩
    (fun x a' _ => a' = (_ : Int → Act) x)
    (fun x a' => fun s X Y row hs hg hr => hs)
    ?assign ?body ?done ?stop
  case assign =>
    rintro l' pre x W K ⟨hbx, hB⟩ hK
    gi_wp2
    refine hK _ _ (KeepsFrom.refl _ _) (Upd.refl _ _) ⟨hbx, hB⟩ ?_
    exact rfl
  case body =>
    rintro l' pre x a' W hl _ ⟨⟨v, hv, hr1⟩, hB⟩ rfl hlt
    have hn12 : pre.length < 1024 := by omega
    have hWs : wz.heap.size ≤ W.heap.size := hB.size
    have hcv := hv.cell
    have HN := Lib.hid (show ¬ (1100 : Int) < (pre.length : Int) + 1 by omega)
    gi_wp2_with (gi_at_builtin; refine wpListIn_append_own_at _ rfl _ _ 45 rfl wz.heap.size 3 i0 (.int .i64 0) 1 8 Try.underlying45 hi hz0 hz1 hz2 rfl (by decide) _ _ _ rfl (hr1.alloc _) ⟨W.heap.size, 0, none⟩ 1 1 [.int .i64 x] rfl rfl (cell_one_new _ _ _) (by simp [Value.oneCell']) (by unfold maxLen; omega) (by omega) (by simp; omega) ?_; intro v' w1' hown' hgrow _ hfrom; obtain ⟨gv, capv, rfl⟩ := ownsRow_succ hown'; obtain ⟨hv1, hv2, hrv, hk2, hb2⟩ := hv.appended (by decide) hr1 hWs (Nat.le_refl _) hown' hgrow; have hc1 := hv1.cell; have hf1 := hv1.frozen; have hc4 := hv2.cell; have hqn := HN.out)
    exact ⟨hk2.from _, upd_below hb2, ⟨_, hv2, by simpa [ints] using hrv⟩, hB.trans hb2⟩
  case stop =>
    rintro D c pre W _ _ h _
    exact h.elim
  case done =>
    rintro D ys W hD rfl ⟨⟨v, hv, hr1⟩, hB⟩ hK
    rename_i hKK
    refine hKK _ _ ?_
    clear hKK
    have hzw := HBo.out.size
    have hbw : Below w.heap.size w W := HB1.out.trans (hB.mono HB1.out.size)
    have hr0 := (hbw.block _ (lt_of_block HR.out.1)).trans HR.out.1
    have hr2' := (hbw.block _ (lt_of_block HR.out.2)).trans HR.out.2
    have hz1 : wo.heap.size + 2 ≤ wz.heap.size := by have := HB1.out.size; omega
    obtain ⟨av, cv, rfl⟩ := (Sl.of_own hr1).rd.nil_iff
    have c0 := cell_of_block hr0 0
    have f0 := frozen_of_block hr0 0
    have c2 := cell_of_block hr2' 0
    have f2 := frozen_of_block hr2' 0
    simp at c0 c2
    have dv := hv.cell
    have F := Lib.hid (And.intro hr0 (And.intro hr2' (And.intro hr1 (And.intro hB (And.intro hbw hK)))))
    clear hr0 hr2' hr1 hB hbw hK hv
    go_wp2
    have hbl : wo.heap.size + 1 < W.heap.size := lt_of_block F.out.2.1
    have x0 := heap_setCell_same F.out.1 0 (.slice av ys.length cv)
    have x2 := (Below.heap_setCell W ⟨wo.heap.size, 0, none⟩ (.slice av ys.length cv) (wo.heap.size + 1) (by simp)).trans F.out.2.1
    have U1 := upd_setCell W wo.heap.size 0 (.slice av ys.length cv)
    have z0 := (Below.heap_setCell _ ⟨wo.heap.size + 1, 0, none⟩ (.bool true) wo.heap.size (by simp)).trans x0
    have z2 := heap_setCell_same x2 0 (.bool true)
    have JD := (KeepsOthers.setCell _ ⟨wo.heap.size + 1, 0, none⟩ (.bool true)).same D _ ((KeepsOthers.setCell W ⟨wo.heap.size, 0, none⟩ (.slice av ys.length cv)).same D _ F.out.2.2.2.2.2 rfl) rfl
    have U3 : Upd (fun j => j = wo.heap.size ∨ j = wo.heap.size + 1) W ((W.setCell ⟨wo.heap.size, 0, none⟩ (.slice av ys.length cv)).setCell ⟨wo.heap.size + 1, 0, none⟩ (.bool true)) :=
      (U1.mono (fun _ _ e => .inl e)).trans ((upd_setCell _ _ _ _).mono (fun _ _ e => .inr e))
    clear x0 x2 U1
    generalize ((W.setCell ⟨wo.heap.size, 0, none⟩ (.slice av ys.length cv)).setCell ⟨wo.heap.size + 1, 0, none⟩ (.bool true)) = wf at *
    have hDz : wz.heap.size + 1 ≤ D := by simp at hD; omega
    have g0 : (wf.putObj D (.deferred none)).heap[wo.heap.size]? = some _ := (World.putObj_heap_other (by omega)).trans z0
    have g2 : (wf.putObj D (.deferred none)).heap[wo.heap.size + 1]? = some _ := (World.putObj_heap_other (by omega)).trans z2
    have e0 := cell_of_block g0 0
    have e2 := cell_of_block g2 0
    simp at e0 e2
    have UD : Upd (fun j => j = wo.heap.size ∨ j = wo.heap.size + 1 ∨ j = D) W (wf.putObj D (.deferred none)) :=
      (U3.mono (fun _ _ h => h.elim .inl (fun h => .inr (.inl h)))).trans ⟨rfl, rfl, rfl, by simp [World.putObj], fun k _ hk => by
        have : k ≠ D := fun e => hk (.inr (.inr e))
        simp only [World.putObj]
        rw [Array.getElem?_setIfInBounds_ne (fun e => this e.symm)]⟩
    have s1 := Sl.of_own F.out.2.2.1
    have hDW := lt_of_block F.out.2.2.2.2.2
    refine ⟨by simp, .inl ⟨_, _, rfl, run_takeDeferred JD, ?_⟩⟩
    refine ⟨.tuple #[.slice av ys.length cv, .bool true], ?_, ?_⟩
    · simp [results, Try.f40, go_sem, e0, e2]
    · have hwz : wz.heap.size ≤ W.heap.size := F.out.2.2.2.1.size
      have n1 : ∀ g, (Value.slice av ys.length cv).ownBlock = some g → wz.heap.size ≤ g ∧ g < W.heap.size ∧ g ≠ D := fun g hg => by
        refine ⟨?_, s1.lt hg, fun e => ?_⟩
        · rcases F.out.2.2.1.2 with ⟨h1, _⟩ | ⟨g', cap, cur, h1, h2, _⟩
          · rw [h1] at hg; cases hg
          · rw [h1] at hg; simp [Value.ownBlock] at hg; omega
        · rcases s1.2 with ⟨h1, _⟩ | ⟨g', off, cap, cur, h1, h2, _⟩
          · rw [h1] at hg; cases hg
          · rw [h1] at hg; simp [Value.ownBlock] at hg; subst hg; subst e; rw [F.out.2.2.2.2.2] at h2; cases h2
      refine ⟨_, rfl, ?_, ?_, ?_⟩
      · exact s1.keep UD (fun g hg h => by have := n1 g hg; omega)
      · exact fun g hg => by have := n1 g hg; omega
      · exact below_upd (HBo.out.trans (F.out.2.2.2.2.1.mono HBo.out.size)) UD (Nat.le_refl _) (fun j h => by omega)
end Go.Proofs.Ytmgcekpfnkcmjaa
