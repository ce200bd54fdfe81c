/- The law's 'keys': all keys, and which were asked for. -/
import Derived.Test.YtmgcekpfnkcmjaaSecAll
import Derived.Maps.OwnIn
namespace Go.Proofs.Ytmgcekpfnkcmjaa
open Go Go.RowKit Go.Shelf
attribute [local go_sem] Oper.semAt_some

theorem undFn7 : ∃ a b c, Try.prog.underlying 118 = some (.func a b c) := ⟨_, _, _, Try.underlying118⟩
theorem equalIn_func_nil7 (w : World) (d : Nat) (fn : Fn) (xs ys : Array Value) : (Op.equalIn (d + 1) 118 (.func fn xs ys) .nilFunc).run Try.prog w = .ok false w := by
  obtain ⟨a, b, c, h⟩ := undFn7
  simp [Op.equalIn, run_underlying h]
theorem eql_func_nil7 (w : World) (fn : Fn) (xs ys : Array Value) : (binOp .eql 118 (.func fn xs ys) .nilFunc).run Try.prog w = .ok (.bool false) w := by
  simp only [binOp]
  simp [Op.equal, Op.maxDepth, equalIn_func_nil7 w 9999 fn xs ys]
theorem undFnI : ∃ a b c, Try.prog.underlying 125 = some (.func a b c) := ⟨_, _, _, Try.underlying125⟩
theorem equalIn_func_nilI (w : World) (d : Nat) (fn : Fn) (xs ys : Array Value) : (Op.equalIn (d + 1) 125 (.func fn xs ys) .nilFunc).run Try.prog w = .ok false w := by
  obtain ⟨a, b, c, h⟩ := undFnI
  simp [Op.equalIn, run_underlying h]
theorem eql_func_nilI (w : World) (fn : Fn) (xs ys : Array Value) : (binOp .eql 125 (.func fn xs ys) .nilFunc).run Try.prog w = .ok (.bool false) w := by
  simp only [binOp]
  simp [Op.equal, Op.maxDepth, equalIn_func_nilI w 9999 fn xs ys]

def bools (l : List Bool) : List Value := l.map .bool
theorem get_bools {l : List Bool} {j : Nat} (h : j < l.length) : (bools l)[j]? = some (.bool l[j]) := by simp [bools, h]
theorem infoB7 : (Try.prog.info? 4).map (fun i => (i.zero, i.size, i.bytes)) = some (some (.bool false), 1, 1) := by kernel_rfl

theorem upd_t {S : Nat → Prop} {A B C : World} (h : Upd S A B) (h' : Upd S B C) : Upd S A C := h.trans h'
theorem upd_b {S : Nat → Prop} {M : Nat} (hS : ∀ j, M ≤ j → S j) (W : World) (l : Nat) (o o' : Obj) (hl : M ≤ l) (_ : W.heap[l]? = some o) (_ : o.isCells = false) (_ : o.isWalk = false) : Upd S W (W.putObj l o') :=
  ⟨rfl, rfl, rfl, by simp [World.putObj], fun k _ hk => by
    have : k ≠ l := fun e => hk (hS k (by omega))
    simp only [World.putObj]
    rw [Array.getElem?_setIfInBounds_ne (fun e => this e.symm)]⟩
theorem boxed_kept {A B : World} {row : Option Nat} {b : Nat} {t : TypeId} {v : Value} (hs : Boxed A b t v) (hg : A.grownBy B row) (hr : ∀ r, row = some r → ∃ o : Obj, A.heap[r]? = some o ∧ o.isCells = false) : Boxed B b t v :=
  hs.kept hg (fun e => by
    obtain ⟨o, ho, hc⟩ := hr _ e.symm
    rw [show A.heap[b]? = _ from hs] at ho
    cases ho
    simp [Obj.isCells] at hc)

/-- The other box, and its slice, behind an append. -/
theorem app_other {W w1 : World} {n₀ B B2 : Nat} {t t2 e e2 : TypeId} {sz sz2 : Nat} {v v' u : Value} {k k2 m : Nat} {xs ys ys2 : List Value} {tmp : Obj}
    (hv : Boxed W B t v) (hu : Boxed W B2 t2 u) (hte : t ≠ e) (ht2e : t2 ≠ e) (hte2 : t ≠ e2) (hBB : B2 ≠ B) (hr1 : W.ownsRow n₀ e sz v k xs) (hr2 : W.ownsRow n₀ e2 sz2 u k2 ys2) (hd : Dis v u)
    (_ : w1.ownsRow n₀ e sz v' m ys) (hgrow : (W.alloc tmp).grownBy w1 v.ownBlock) (hfrom : v'.ownBlock = v.ownBlock ∨ v'.ownBlock = some (W.alloc tmp).heap.size) :
    Boxed (w1.setCell ⟨B, 0, none⟩ v') B2 t2 u ∧ (w1.setCell ⟨B, 0, none⟩ v').ownsRow n₀ e2 sz2 u k2 ys2 ∧ Dis v' u := by
  have hu1 : Boxed w1 B2 t2 u := (hu.alloc tmp).kept hgrow (hu.not_row ht2e hr1)
  have hv1 : Boxed w1 B t v := (hv.alloc tmp).kept hgrow (hv.not_row hte hr1)
  have hur : u.ownBlock = none ∨ u.ownBlock ≠ v.ownBlock := by
    cases hq : u.ownBlock with
    | none => exact .inl rfl
    | some g => exact .inr (fun e => hd g (e ▸ rfl) hq)
  have hr21 : w1.ownsRow n₀ e2 sz2 u k2 ys2 := (hr2.alloc tmp).kept hgrow hur
  have hr22 := hr21.kept (grownBy_setCell' w1 B v') (.inr (hv1.not_row hte2 hr21).symm)
  refine ⟨hu1.other hBB v', hr22, ?_⟩
  intro g h1 h2
  rcases hfrom with h | h
  · exact hd g (by rw [← h]; exact h1) h2
  · rw [h] at h1
    cases h1
    rcases hr2.2 with ⟨rfl, _⟩ | ⟨g', cap, cur, rfl, _, hg, _⟩
    · cases h2
    · simp [Value.ownBlock] at h2
      have := (Array.getElem?_eq_some_iff.1 hg).1
      omega

/-- Two slices that hold what came. -/
def rowsAt (W : World) (M : Nat) (v u : Value) (pre : List It7) : Prop :=
  W.ownsRow M 3 1 v pre.length (pre.map fun x => .int .i64 x.1) ∧ W.ownsRow M 4 1 u pre.length (pre.map fun x => .bool x.2) ∧ Dis v u
/-- .. in two boxes. -/
def boxes2 (M : Nat) (pre : List It7) (W : World) : Prop := ∃ v u, Boxed W M 45 v ∧ Boxed W (M + 1) 72 u ∧ rowsAt W M v u pre
theorem row_kept {X Y : World} {row : Option Nat} {M sz : Nat} {e : TypeId} {v : Value} {n : Nat} {xs : List Value} (h : X.ownsRow M e sz v n xs) (hg : X.grownBy Y row) (hr : ∀ r, row = some r → ∃ o : Obj, X.heap[r]? = some o ∧ o.isCells = false) : Y.ownsRow M e sz v n xs := by
  refine h.kept hg ?_
  rcases h.2 with ⟨rfl, _⟩ | ⟨g, cap, cur, rfl, _, hgb, _⟩
  · exact .inl rfl
  · refine .inr (fun e' => ?_)
    obtain ⟨o, ho, hc⟩ := hr g e'.symm
    rw [hgb] at ho
    cases ho
    simp [Obj.isCells] at hc
theorem boxes2_own (M : Nat) : Own (boxes2 M) := by
  rintro s X Y row ⟨v, u, h1, h2, h3, h4, h5⟩ hg hr
  exact ⟨v, u, boxed_kept h1 hg hr, boxed_kept h2 hg hr, row_kept h3 hg hr, row_kept h4 hg hr, h5⟩
theorem upd_below {n₀ : Nat} {W W' : World} (h : Below n₀ W W') : Upd (fun j => n₀ ≤ j) W W' := ⟨h.os, h.tape, h.output, h.size, fun k _ hs => h.block k (by omega)⟩
theorem rows_snoc {W : World} {M : Nat} {v u : Value} {pre : List It7} {x : It7} (h1 : W.ownsRow M 3 1 v (pre.length + 1) ((pre.map fun x => .int .i64 x.1) ++ [.int .i64 x.1]))
    (h2 : W.ownsRow M 4 1 u (pre.length + 1) ((pre.map fun x => .bool x.2) ++ [.bool x.2])) (hd : Dis v u) : rowsAt W M v u (pre ++ [x]) := by
  exact ⟨by simpa using h1, by simpa using h2, hd⟩
/-- What keys answers. -/
def KeysPost (w : World) (L : List It7) (e : Ending) (w' : World) : Prop :=
  ∃ v u, e = .returned (.tuple #[v, u, .bool true]) ∧ Sl w' 3 1 v L.length (ints (L.map (·.1))) ∧ Sl w' 4 1 u L.length (bools (L.map (·.2))) ∧ From w.heap.size v ∧ From w.heap.size u ∧ Below w.heap.size w w'

set_option maxRecDepth 100000 in
set_option maxHeartbeats 8000000 in
theorem keys_of (p : Option Addr) (L : List It7) (hlen : L.length ≤ 1024) (wo : World)
    (hall : ∀ W, Below wo.heap.size wo W → Calls Try.prog 69 #[.pointer p] W fun e w' => ∃ gf lb, e = .returned (.func (.func gf) #[] lb) ∧ GivesE enc7 w' gf lb L ∧ Below W.heap.size W w') :
    Calls Try.prog 36 #[.pointer p] wo (KeysPost wo L) := by
  have qf := eql_func_nil7
  have HALL := Lib.hid hall
  clear hall
  have hBo : Below wo.heap.size wo (((wo.alloc (.cells #[.slice none 0 0] 45)).alloc (.cells #[.slice none 0 0] 72)).alloc (.cells #[.bool false] 4)) := (((Below.refl _ wo).alloc (Nat.le_refl _) _).alloc (by simp) _).alloc (by simp; omega) _
  have hr0 : (((wo.alloc (.cells #[.slice none 0 0] 45)).alloc (.cells #[.slice none 0 0] 72)).alloc (.cells #[.bool false] 4)).heap[wo.heap.size]? = some (.cells #[.slice none 0 0] 45 (0, 0)) :=
    (Below.heap_alloc _ _ _ (by simp; omega)).trans ((Below.heap_alloc _ _ _ (by simp)).trans (heap_alloc_last wo _ rfl))
  have hr1 : (((wo.alloc (.cells #[.slice none 0 0] 45)).alloc (.cells #[.slice none 0 0] 72)).alloc (.cells #[.bool false] 4)).heap[wo.heap.size + 1]? = some (.cells #[.slice none 0 0] 72 (0, 0)) :=
    (Below.heap_alloc _ _ _ (by simp)).trans (heap_alloc_last (wo.alloc _) _ (by simp))
  have hr2 : (((wo.alloc (.cells #[.slice none 0 0] 45)).alloc (.cells #[.slice none 0 0] 72)).alloc (.cells #[.bool false] 4)).heap[wo.heap.size + 2]? = some (.cells #[.bool false] 4 (0, 0)) :=
    heap_alloc_last ((wo.alloc _).alloc _) _ (by simp)
  have hzo : (((wo.alloc (.cells #[.slice none 0 0] 45)).alloc (.cells #[.slice none 0 0] 72)).alloc (.cells #[.bool false] 4)).heap.size = wo.heap.size + 3 := by simp
  refine (callsIn_wide (n := 4)).1 ?_
  refine callsIn_of_wp_marks Try.func36 rfl trivial ?_ rfl
  simp only [Try.ntmps36, List.size_toArray, List.length_cons, List.length_nil, Nat.reduceAdd, Nat.reduceSub, Array.replicate_succ, Array.replicate_zero, List.push_toArray, List.append_toArray, List.nil_append, List.cons_append]
  refine wpIn_wide.2 ?_
  go_wp2_with fail
  generalize (((wo.alloc (.cells #[.slice none 0 0] 45)).alloc (.cells #[.slice none 0 0] 72)).alloc (.cells #[.bool false] 4)) = w at *
  have HR := Lib.hid (And.intro hr0 (And.intro hr1 hr2))
  have HBo := Lib.hid hBo
  clear hr0 hr1 hr2 hBo
  refine (HALL.out w HBo.out).mono ?_
  rintro e w1 ⟨g1, lb1, rfl, hg1, hb1⟩
  have HG1 := Lib.hid hg1
  have HB1 := Lib.hid hb1
  clear hg1 hb1
  obtain ⟨wz, rfl⟩ : ∃ wz : World, wz = w1 := ⟨_, rfl⟩
  obtain ⟨i0, hi, hz0, hz1, hz2⟩ := info_parts infoI07
  obtain ⟨j0, hj, hy0, hy1, hy2⟩ := info_parts infoB7
  have hbz0 : Below wz.heap.size wz ((wz.alloc (.cells #[.slice none 0 0] 45)).alloc (.cells #[.slice none 0 0] 72)) := ((Below.refl _ wz).alloc (Nat.le_refl _) _).alloc (by simp) _
  have hbx0 : boxes2 wz.heap.size [] ((wz.alloc (.cells #[.slice none 0 0] 45)).alloc (.cells #[.slice none 0 0] 72)) :=
    ⟨_, _, (Boxed.new wz _ _).alloc _, heap_alloc_last _ _ (by simp), World.ownsRow_nil _ _ _ _, World.ownsRow_nil _ _ _ _, Dis.nil _ _ _⟩
  have hz0' : ((wz.alloc (.cells #[.slice none 0 0] 45)).alloc (.cells #[.slice none 0 0] 72)).heap.size = wz.heap.size + 2 := by simp
  go_wp2
  refine (wpIn_wide (n := 4)).1 ?_
  refine' wpIn_rangeFunc_ownH rfl (by omega) (gf := g1) (lb := lb1) rfl trivial HG1.out.1
    (HG1.out.2 3 (by omega) (fun j => wz.heap.size ≤ j) (fun j h => h) _ hbz0) upd_t (fun W l o o' hl => upd_b (M := wz.heap.size) (fun j h => h) W l o o' (by simp at hl; omega)) (Below.refl _ _) (fun _ => rfl)
    (fun pre W => boxes2 wz.heap.size pre W ∧ Below wz.heap.size wz W)
    (fun _ _ _ => False)
    (OwnFrom.and (Own.from (boxes2_own wz.heap.size) _) (ownFrom_below (Nat.le_refl _) (by simp; omega)))
    (fun _ _ _ _ _ hs _ _ => hs)
    ⟨hbx0, hbz0⟩
    (fun x a' _ => a' = (_ : It7 → Act) x)
    (fun x a' => fun s X Y row hs hg hr => hs)
    ?assign ?body ?done ?stop
  case assign =>
    rintro l' pre x W K ⟨hbx, hB⟩ hK
    gi_wp2
    refine hK _ _ (KeepsFrom.refl _ _) (Upd.refl _ _) ⟨hbx, hB⟩ ?_
    exact rfl
  case body =>
    rintro l' pre x a' W hl _ ⟨⟨v, u, hv, hu, hr1, hr2, hd⟩, hB⟩ rfl hlt
    have hn12 : pre.length < 1024 := by omega
    have hWs : wz.heap.size ≤ W.heap.size := hB.size
    have hcv := hv.cell
    have HN := Lib.hid (show ¬ (1100 : Int) < (pre.length : Int) + 1 by omega)
    gi_wp2_with (first
      | (gi_at_builtin; refine wpListIn_append_own_at _ rfl _ _ 45 rfl wz.heap.size 3 i0 (.int .i64 0) 1 8 Try.underlying45 hi hz0 hz1 hz2 rfl (by decide) _ _ _ rfl (hr1.alloc _) ⟨W.heap.size, 0, none⟩ 1 1 [.int .i64 x.1] rfl rfl (cell_one_new _ _ _) (by simp [Value.oneCell']) (by unfold maxLen; omega) (by omega) (by simp; omega) ?_; intro v' w1' hown' hgrow _ hfrom; obtain ⟨gv, capv, rfl⟩ := ownsRow_succ hown'; obtain ⟨hv1, hv2, hrv, hk2, hb2⟩ := hv.appended (by decide) hr1 hWs (Nat.le_refl _) hown' hgrow; obtain ⟨hu', hru, hd'⟩ := app_other hv hu (by decide) (by decide) (by decide) (by omega) hr1 hr2 hd hown' hgrow hfrom; have hc1 := hv1.cell; have hf1 := hv1.frozen; have hcu := hu'.cell; have hfu := hu'.frozen)
      | (gi_at_builtin; refine wpListIn_append_own_at _ rfl _ _ 72 rfl wz.heap.size 4 j0 (.bool false) 1 1 Try.underlying72 hj hy0 hy1 hy2 rfl (by decide) _ _ _ rfl (hru.alloc _) ⟨w1'.heap.size, 0, none⟩ 1 1 [.bool x.2] rfl rfl (fun j u hj => by have := cell_one_new (w1'.setCell ⟨wz.heap.size, 0, none⟩ (.slice (some ⟨gv, 0, none⟩) (pre.length + 1) capv)) (.bool x.2) 4 j u hj; rw [World.size_setCell] at this; exact this) (by simp [Value.oneCell']) (by unfold maxLen; omega) (by omega) (by have := hb2.size; simp at this ⊢; omega) ?_; intro u' w2' hown2 hgrow2 _ hfrom2; obtain ⟨gu, capu, rfl⟩ := ownsRow_succ hown2; obtain ⟨hu1, hu2, hru2, hk4, hb4⟩ := hu'.appended (by decide) hru (by have := hb2.size; simp at this ⊢; omega) (by omega) hown2 hgrow2; obtain ⟨hv', hrv', hd2⟩ := app_other hu' hv2 (by decide) (by decide) (by decide) (by omega) hru hrv hd'.symm hown2 hgrow2 hfrom2; have hc3 := hu1.cell; have hf3 := hu1.frozen; have hc4 := hv'.cell; have hqn := HN.out))
    exact ⟨(hk2.trans hk4).from _, (upd_below hb2).trans (upd_below hb4), ⟨_, _, hv', hu2, rows_snoc hrv' hru2 hd2.symm⟩, hB.trans (hb2.trans hb4)⟩
  case stop =>
    rintro D c pre W _ _ h _
    exact h.elim
  case done =>
    rintro D ys W hD rfl ⟨⟨v, u, hv, hu, hr1, hr2, hd⟩, hB⟩ hK
    rename_i hKK
    refine hKK _ _ ?_
    clear hKK
    have hzw := HBo.out.size
    have hbw : Below w.heap.size w W := HB1.out.trans (hB.mono HB1.out.size)
    have hr0 := (hbw.block _ (lt_of_block HR.out.1)).trans HR.out.1
    have hr1' := (hbw.block _ (lt_of_block HR.out.2.1)).trans HR.out.2.1
    have hr2' := (hbw.block _ (lt_of_block HR.out.2.2)).trans HR.out.2.2
    have hz1 : wo.heap.size + 3 ≤ wz.heap.size := by have := HB1.out.size; omega
    obtain ⟨av, cv, rfl⟩ := (Sl.of_own hr1).rd.nil_iff
    obtain ⟨au, cu, rfl⟩ := (Sl.of_own hr2).rd.nil_iff
    have c0 : W.cell? ⟨wo.heap.size, 0, none⟩ = some (.slice none 0 0) := cell_of_block hr0 0
    have f0 : W.frozen? ⟨wo.heap.size, 0, none⟩ = false := frozen_of_block hr0 0
    have c1 : W.cell? ⟨wo.heap.size + 1, 0, none⟩ = some (.slice none 0 0) := cell_of_block hr1' 0
    have f1 : W.frozen? ⟨wo.heap.size + 1, 0, none⟩ = false := frozen_of_block hr1' 0
    have c2 : W.cell? ⟨wo.heap.size + 2, 0, none⟩ = some (.bool false) := cell_of_block hr2' 0
    have f2 : W.frozen? ⟨wo.heap.size + 2, 0, none⟩ = false := frozen_of_block hr2' 0
    have dv : W.cell? ⟨wz.heap.size, 0, none⟩ = some _ := hv.cell
    have du : W.cell? ⟨wz.heap.size + 1, 0, none⟩ = some _ := hu.cell
    have F := Lib.hid (And.intro hr0 (And.intro hr1' (And.intro hr2' (And.intro hr1 (And.intro hr2 (And.intro hB (And.intro hbw hK)))))))
    clear hr0 hr1' hr2' hr1 hr2 hB hbw hK hv hu
    go_wp2
    go_region
    go_wp2
    have hbl : wo.heap.size + 2 < W.heap.size := lt_of_block F.out.2.2.1
    have x0 := heap_setCell_same F.out.1 0 (.slice av ys.length cv)
    have x1 := (Below.heap_setCell W ⟨wo.heap.size, 0, none⟩ (.slice av ys.length cv) (wo.heap.size + 1) (by simp)).trans F.out.2.1
    have x2 := (Below.heap_setCell W ⟨wo.heap.size, 0, none⟩ (.slice av ys.length cv) (wo.heap.size + 2) (by simp)).trans F.out.2.2.1
    have U1 := upd_setCell W wo.heap.size 0 (.slice av ys.length cv)
    have y0 := (Below.heap_setCell _ ⟨wo.heap.size + 1, 0, none⟩ (.slice au ys.length cu) wo.heap.size (by simp)).trans x0
    have y1 := heap_setCell_same x1 0 (.slice au ys.length cu)
    have y2 := (Below.heap_setCell _ ⟨wo.heap.size + 1, 0, none⟩ (.slice au ys.length cu) (wo.heap.size + 2) (by simp)).trans x2
    have z0 := (Below.heap_setCell _ ⟨wo.heap.size + 2, 0, none⟩ (.bool true) wo.heap.size (by simp)).trans y0
    have z1 := (Below.heap_setCell _ ⟨wo.heap.size + 2, 0, none⟩ (.bool true) (wo.heap.size + 1) (by simp)).trans y1
    have z2 := heap_setCell_same y2 0 (.bool true)
    have JD := (KeepsOthers.setCell _ ⟨wo.heap.size + 2, 0, none⟩ (.bool true)).same D _ ((KeepsOthers.setCell _ ⟨wo.heap.size + 1, 0, none⟩ (.slice au ys.length cu)).same D _ ((KeepsOthers.setCell W ⟨wo.heap.size, 0, none⟩ (.slice av ys.length cv)).same D _ F.out.2.2.2.2.2.2.2 rfl) rfl) rfl
    have U3 : Upd (fun j => j = wo.heap.size ∨ j = wo.heap.size + 1 ∨ j = wo.heap.size + 2) W (((W.setCell ⟨wo.heap.size, 0, none⟩ (.slice av ys.length cv)).setCell ⟨wo.heap.size + 1, 0, none⟩ (.slice au ys.length cu)).setCell ⟨wo.heap.size + 2, 0, none⟩ (.bool true)) :=
      ((U1.mono (fun _ _ e => .inl e)).trans ((upd_setCell _ _ _ _).mono (fun _ _ e => .inr (.inl e)))).trans ((upd_setCell _ _ _ _).mono (fun _ _ e => .inr (.inr e)))
    clear x0 x1 x2 y0 y1 y2 U1
    rw [show wo.heap.size + 1 + 1 = wo.heap.size + 2 by omega]
    generalize (((W.setCell ⟨wo.heap.size, 0, none⟩ (.slice av ys.length cv)).setCell ⟨wo.heap.size + 1, 0, none⟩ (.slice au ys.length cu)).setCell ⟨wo.heap.size + 2, 0, none⟩ (.bool true)) = wf at *
    have JD' : wf.drew.heap[D]? = some (.deferred (some [])) := JD
    have hDz : wz.heap.size + 2 ≤ D := by simp at hD; omega
    have g0 : (wf.drew.putObj D (.deferred none)).heap[wo.heap.size]? = some _ := (World.putObj_heap_other (by omega)).trans z0
    have g1 : (wf.drew.putObj D (.deferred none)).heap[wo.heap.size + 1]? = some _ := (World.putObj_heap_other (by omega)).trans z1
    have g2 : (wf.drew.putObj D (.deferred none)).heap[wo.heap.size + 2]? = some _ := (World.putObj_heap_other (by omega)).trans z2
    have e0 := cell_of_block g0 0
    have e1 := cell_of_block g1 0
    have e2 := cell_of_block g2 0
    simp at e0 e1 e2
    have UD : Upd (fun j => j = wo.heap.size ∨ j = wo.heap.size + 1 ∨ j = wo.heap.size + 2 ∨ j = D) W (wf.drew.putObj D (.deferred none)) :=
      (U3.drew.mono (fun _ _ h => h.elim .inl (fun h => h.elim (fun h => .inr (.inl h)) (fun h => .inr (.inr (.inl h)))))).trans ⟨rfl, rfl, rfl, by simp [World.putObj], fun k _ hk => by
        have : k ≠ D := fun e => hk (.inr (.inr (.inr e)))
        simp only [World.putObj]
        rw [Array.getElem?_setIfInBounds_ne (fun e => this e.symm)]⟩
    have s1 := Sl.of_own F.out.2.2.2.1
    have s2 := Sl.of_own F.out.2.2.2.2.1
    have hDW := lt_of_block F.out.2.2.2.2.2.2.2
    refine ⟨by simp, .inl ⟨_, _, rfl, run_takeDeferred JD', ?_⟩⟩
    refine ⟨.tuple #[.slice av ys.length cv, .slice au ys.length cu, .bool true], ?_, ?_⟩
    · simp [results, Try.f36, go_sem, e0, e1, e2]
    · have hwz : wz.heap.size ≤ W.heap.size := F.out.2.2.2.2.2.1.size
      have n1 : ∀ g, (Value.slice av ys.length cv).ownBlock = some g → wz.heap.size ≤ g ∧ g < W.heap.size ∧ g ≠ D := fun g hg => by
        refine ⟨?_, s1.lt hg, fun e => ?_⟩
        · rcases F.out.2.2.2.1.2 with ⟨h1, _⟩ | ⟨g', cap, cur, h1, h2, _⟩
          · rw [h1] at hg; cases hg
          · rw [h1] at hg; simp [Value.ownBlock] at hg; omega
        · rcases s1.2 with ⟨h1, _⟩ | ⟨g', off, cap, cur, h1, h2, _⟩
          · rw [h1] at hg; cases hg
          · rw [h1] at hg; simp [Value.ownBlock] at hg; subst hg; subst e; rw [F.out.2.2.2.2.2.2.2] at h2; cases h2
      have n2 : ∀ g, (Value.slice au ys.length cu).ownBlock = some g → wz.heap.size ≤ g ∧ g < W.heap.size ∧ g ≠ D := fun g hg => by
        refine ⟨?_, s2.lt hg, fun e => ?_⟩
        · rcases F.out.2.2.2.2.1.2 with ⟨h1, _⟩ | ⟨g', cap, cur, h1, h2, _⟩
          · rw [h1] at hg; cases hg
          · rw [h1] at hg; simp [Value.ownBlock] at hg; omega
        · rcases s2.2 with ⟨h1, _⟩ | ⟨g', off, cap, cur, h1, h2, _⟩
          · rw [h1] at hg; cases hg
          · rw [h1] at hg; simp [Value.ownBlock] at hg; subst hg; subst e; rw [F.out.2.2.2.2.2.2.2] at h2; cases h2
      refine ⟨_, _, rfl, ?_, ?_, ?_, ?_, ?_⟩
      · have := s1.keep UD (fun g hg h => by have := n1 g hg; omega)
        simpa [ints, List.map_map, Function.comp_def] using this
      · have := s2.keep UD (fun g hg h => by have := n2 g hg; omega)
        simpa [bools, List.map_map, Function.comp_def] using this
      · exact fun g hg => by have := n1 g hg; omega
      · exact fun g hg => by have := n2 g hg; omega
      · exact below_upd (HBo.out.trans (F.out.2.2.2.2.2.2.1.mono HBo.out.size)) UD (Nat.le_refl _) (fun j h => by omega)
end Go.Proofs.Ytmgcekpfnkcmjaa
