/- What a function answers that is handed in (guard), for a log's things. A log: number, New, Len. -/
import Derived.Test.YtnadilfobmgebaaGreatDoorG22
import Derived.Defers
import Derived.Recover
namespace Go.Proofs.YtnadilfobmgebaaGreatDoor
open Go Go.RowKit
theorem results_mid_c {P : Program} {fn : Func} {p q : Tmp} {ty ty2 : TypeId} (h : fn.results = #[.cell p ty, .cell q ty2]) (tmps : Array Value) (w : World) (b o : Nat) (cs : List Value) (d : TypeDesc)
    (hp : tmps.getD p undef = .pointer (some ⟨b, o, none⟩)) (hc : w.rangeAt b o cs) (hu : P.underlying ty = some d) (hd : d.isRow = true) (hi : (P.info? ty).map (·.size) = some cs.length)
    (g : Nat) (v : Value) (hq : tmps.getD q undef = .pointer (some ⟨g, 0, none⟩)) (hv : (loadVar ty2 ⟨g, 0, none⟩).run P w = .ok v w) :
    (results fn tmps).run P w = .ok (.tuple #[.agg cs.toArray, v]) w := by
  have hp' : tmps[p]?.getD undef = .pointer (some ⟨b, o, none⟩) := by simpa using hp
  have hq' : tmps[q]?.getD undef = .pointer (some ⟨g, 0, none⟩) := by simpa using hq
  simp [results, h, hp', hq', asAddr, run_loadVar_mid w b o ty cs d hc hu hd hi, hv, Sem.run_bind, Result.andThen]
theorem load_errno {w : World} {g : Nat} {cd : Int} (h : w.cell? ⟨g, 0, none⟩ = some (.int .i64 cd)) : (loadVar 40 ⟨g, 0, none⟩).run Tryz.prog w = .ok (.int .i64 cd) w := by
  simp [go_sem, h]
theorem load_int {w : World} {g : Nat} {cd : Int} (h : w.cell? ⟨g, 0, none⟩ = some (.int .i64 cd)) : (loadVar 3 ⟨g, 0, none⟩).run Tryz.prog w = .ok (.int .i64 cd) w := by
  simp [go_sem, h]
def GuardPost (w : World) (R : List Value → Int → Prop) (e : Ending) (w' : World) : Prop := ∃ ys cd, R ys cd ∧ e = .returned (.tuple #[.agg ys.toArray, .int .i64 cd]) ∧ Below w.heap.size w w'
def NumPost (w : World) (n cd : Int) (e : Ending) (w' : World) : Prop := e = .returned (.tuple #[.int .i64 n, .int .i64 cd]) ∧ Below w.heap.size w w'
theorem guardIB_idle (p q : Value) (w : World) :
    CallsD Tryz.prog 129 #[p, q] .returning w fun e u' w' => e = .returned (.tuple #[]) ∧ u' = .returning ∧ w' = w := by
  refine callsD_of_wpS Tryz.func129 rfl fun c₀ cs hu => ?_
  apply wpS_seq
  apply wpS_region
  simp [wpOpsS, go_sem, recoverD, hu, Tryz.ntmps129, Exit.thenS]
  refine wpS_cond (t := false) (by simp [Act.eval, Array.replicate]) ?_
  simp only [Bool.false_eq_true, if_false]
  refine wpS_of_wp (wp_skip ?_)
  cases c₀
  simp_all [bodyPostS, results, Tryz.results129]
set_option maxRecDepth 100000 in
set_option maxHeartbeats 1000000 in
theorem guardIB {w : World} (xs : List Value) (hxs : (Tryz.prog.info? 39).map (·.size) = some xs.length) (ff : Nat) (cc : Array Value) (ent : ∀ args w, (callFunc ff args).run Tryz.prog w = .ok (.enter ff args) w)
    (R : List Value → Int → Prop) (hR : ∀ ys cd, R ys cd → ys.length = 64 ∧ ∀ v ∈ ys, v.oneCell' = true)
    (hf : ∀ W, Below w.heap.size w W → Calls Tryz.prog ff (#[.agg xs.toArray] ++ cc) W (GuardPost W R)) :
    Calls Tryz.prog 71 #[.func (.func ff) #[] cc, .agg xs.toArray] w (GuardPost w R) := by
  have hmf : ∀ (fn : Fn) (first cap : Array Value) (w : World), (Instr.makeFunc fn first cap).run Tryz.prog w = .ok (.func fn first cap) w := fun _ _ _ _ => rfl
  have HF := Lib.hid (And.intro hf (And.intro hR hxs))
  clear hf hR hxs
  have hr := range_of_block (heap_alloc_last w (.cells xs.toArray 39) rfl)
  go_enter_defers Tryz.func71, Tryz.ntmps71
  go_wp2_with (first
    | (refine wpList_load_mid rfl _ _ rfl _ _ rfl _ _ (World.rangeAt_alloc (World.rangeAt_alloc hr _) _) Tryz.underlying39 rfl HF.out.2.2 ?_)
    | fail)
  show Calls _ _ _ (((w.alloc (.cells xs.toArray 39)).alloc (.cells (bkC zB).toArray 23)).alloc (.cells #[.int .i64 0] 40)) _
  obtain ⟨h1, h2, h3, h4, h5⟩ := three_new w (.cells xs.toArray 39) (.cells (bkC zB).toArray 23) (.cells #[.int .i64 0] 40)
  clear hr
  generalize ((w.alloc (.cells xs.toArray 39)).alloc (.cells (bkC zB).toArray 23)).alloc (.cells #[.int .i64 0] 40) = w3 at *
  refine (HF.out.1 w3 (Upd.below h5)).mono ?_
  rintro e w4 ⟨ys, cd, hRR, rfl, hb4⟩
  have g2 := (hb4.block _ (lt_of_block h2)).trans h2
  have g3 := (hb4.block _ (lt_of_block h3)).trans h3
  have hyl := HF.out.2.1 ys cd hRR
  have hth : w4.there (w.heap.size + 1) 0 64 := fun j hj => by
    rw [cell_of_block g2, frozen_of_block g2]
    exact ⟨by rw [Nat.zero_add, Array.getElem?_eq_getElem (by rw [bkC_size _ zB_len]; exact hj)]; rfl, rfl⟩
  have hst : w4.there (w.heap.size + 1) 0 ys.toArray.size := by rw [show ys.toArray.size = 64 by simpa using hyl.1]; exact hth
  have hsz2 : (Tryz.prog.info? 23).map (·.size) = some ys.toArray.size := by rw [show ys.toArray.size = 64 by simpa using hyl.1]; exact sizeBk'
  have g3' := ((upd_row w4 (w.heap.size + 1) 0 ys).block (w.heap.size + 1 + 1) (lt_of_block g3) (by omega)).trans g3
  have c3 : (w4.setCells (w.heap.size + 1) 0 ys).cell? ⟨w.heap.size + 1 + 1, 0, none⟩ = some (.int .i64 0) := cell_of_block g3' 0
  have z3 := frozen_of_block g3' 0
  have HX := Lib.hid (And.intro hst (And.intro hsz2 (And.intro hyl (And.intro hRR (And.intro hb4 (And.intro h5 (And.intro h4 hth)))))))
  clear hst hsz2 hyl hRR hb4 h5 h4 h1 h2 h3 g2 g3 hth
  go_wp2_with (first
    | (refine wpList_store_mid rfl _ _ _ rfl _ _ ys.toArray rfl rfl HX.out.1 HX.out.2.1 (all_oneCell_toArray HX.out.2.2.1.2) ?_)
    | fail)
  refine leaves_cons (f := 129) (args := #[.pointer (some ⟨w.heap.size + 1, 0, none⟩), .pointer (some ⟨w.heap.size + 1 + 1, 0, none⟩)]) (by simp) (by simp [go_sem]) ?_
  refine (guardIB_idle _ _ _).mono ?_
  rintro e u' w'' ⟨rfl, rfl, rfl⟩
  simp [Leaves, settle]
  have hst2 : w4.there (w.heap.size + 1) 0 ys.length := by rw [HX.out.2.2.1.1]; exact HX.out.2.2.2.2.2.2.2
  have r1 := World.rangeAt_setCells_same w4 (w.heap.size + 1) 0 ys hst2
  have r2 : ((w4.setCells (w.heap.size + 1) 0 ys).setCell ⟨w.heap.size + 1 + 1, 0, none⟩ (.int .i64 cd)).rangeAt (w.heap.size + 1) 0 ys := range_keep_set r1 (by omega)
  have c4 : ((w4.setCells (w.heap.size + 1) 0 ys).setCell ⟨w.heap.size + 1 + 1, 0, none⟩ (.int .i64 cd)).cell? ⟨w.heap.size + 1 + 1, 0, none⟩ = some (.int .i64 cd) := World.cell?_setCell_same _ _ _ c3
  refine ⟨_, results_mid_c rfl _ _ (w.heap.size + 1) 0 ys _ rfl r2 Tryz.underlying23 rfl (by rw [HX.out.2.2.1.1]; exact sizeBk') (w.heap.size + 1 + 1) _ rfl (load_errno c4), ⟨ys, cd, HX.out.2.2.2.1, rfl, ?_⟩⟩
  refine below_upd (below_upd ((Upd.below HX.out.2.2.2.2.2.1).trans (HX.out.2.2.2.2.1.mono HX.out.2.2.2.2.2.1.size)) (upd_row w4 (w.heap.size + 1) 0 ys) (Nat.le_refl _) (fun k e => by omega)) (upd_setCell _ (w.heap.size + 1 + 1) 0 _) (Nat.le_refl _) (fun k e => by omega)
theorem guardIN_idle (p q : Value) (w : World) :
    CallsD Tryz.prog 169 #[p, q] .returning w fun e u' w' => e = .returned (.tuple #[]) ∧ u' = .returning ∧ w' = w := by
  refine callsD_of_wpS Tryz.func169 rfl fun c₀ cs hu => ?_
  apply wpS_seq
  apply wpS_region
  simp [wpOpsS, go_sem, recoverD, hu, Tryz.ntmps169, Exit.thenS]
  refine wpS_cond (t := false) (by simp [Act.eval, Array.replicate]) ?_
  simp only [Bool.false_eq_true, if_false]
  refine wpS_of_wp (wp_skip ?_)
  cases c₀
  simp_all [bodyPostS, results, Tryz.results169]
set_option maxRecDepth 100000 in
set_option maxHeartbeats 1000000 in
theorem guardIN {w : World} (xs : List Value) (hxs : (Tryz.prog.info? 39).map (·.size) = some xs.length) (ff : Nat) (cc : Array Value) (ent : ∀ args w, (callFunc ff args).run Tryz.prog w = .ok (.enter ff args) w)
    (n cd : Int) (hf : ∀ W, Below w.heap.size w W → Calls Tryz.prog ff (#[.agg xs.toArray] ++ cc) W (NumPost W n cd)) :
    Calls Tryz.prog 122 #[.func (.func ff) #[] cc, .agg xs.toArray] w (NumPost w n cd) := by
  have hmf : ∀ (fn : Fn) (first cap : Array Value) (w : World), (Instr.makeFunc fn first cap).run Tryz.prog w = .ok (.func fn first cap) w := fun _ _ _ _ => rfl
  have HF := Lib.hid (And.intro hf hxs)
  clear hf hxs
  have hr := range_of_block (heap_alloc_last w (.cells xs.toArray 39) rfl)
  go_enter_defers Tryz.func122, Tryz.ntmps122
  go_wp2_with (first
    | (refine wpList_load_mid rfl _ _ rfl _ _ rfl _ _ (World.rangeAt_alloc (World.rangeAt_alloc hr _) _) Tryz.underlying39 rfl HF.out.2 ?_)
    | fail)
  obtain ⟨h1, h2, h3, h4, h5⟩ := three_new w (.cells xs.toArray 39) (.cells #[.int .i64 0] 3) (.cells #[.int .i64 0] 40)
  clear hr
  generalize ((w.alloc (.cells xs.toArray 39)).alloc (.cells #[.int .i64 0] 3)).alloc (.cells #[.int .i64 0] 40) = w3 at *
  refine (HF.out.1 w3 (Upd.below h5)).mono ?_
  rintro e w4 ⟨rfl, hb4⟩
  have g2 := (hb4.block _ (lt_of_block h2)).trans h2
  have g3 := (hb4.block _ (lt_of_block h3)).trans h3
  have c2 : w4.cell? ⟨w.heap.size + 1, 0, none⟩ = some (.int .i64 0) := cell_of_block g2 0
  have z2 := frozen_of_block g2 0
  have c3 : w4.cell? ⟨w.heap.size + 1 + 1, 0, none⟩ = some (.int .i64 0) := cell_of_block g3 0
  have z3 := frozen_of_block g3 0
  have HX := Lib.hid (And.intro hb4 h5)
  clear hb4 h5 h4 h1 h2 h3 g2 g3
  go_wp2
  refine leaves_cons (f := 169) (args := #[.pointer (some ⟨w.heap.size + 1, 0, none⟩), .pointer (some ⟨w.heap.size + 1 + 1, 0, none⟩)]) (by simp) (by simp [go_sem]) ?_
  refine (guardIN_idle _ _ _).mono ?_
  rintro e u' w'' ⟨rfl, rfl, rfl⟩
  have d1 : ((w4.setCell ⟨w.heap.size + 1, 0, none⟩ (.int .i64 n)).setCell ⟨w.heap.size + 1 + 1, 0, none⟩ (.int .i64 cd)).cell? ⟨w.heap.size + 1, 0, none⟩ = some (.int .i64 n) := cell_keep_set (World.cell?_setCell_same _ _ _ c2) (by omega)
  have d2 : ((w4.setCell ⟨w.heap.size + 1, 0, none⟩ (.int .i64 n)).setCell ⟨w.heap.size + 1 + 1, 0, none⟩ (.int .i64 cd)).cell? ⟨w.heap.size + 1 + 1, 0, none⟩ = some (.int .i64 cd) := World.cell?_setCell_same _ _ _ (cell_keep_set c3 (by omega))
  have d3 : Below w.heap.size w ((w4.setCell ⟨w.heap.size + 1, 0, none⟩ (.int .i64 n)).setCell ⟨w.heap.size + 1 + 1, 0, none⟩ (.int .i64 cd)) :=
    below_upd (below_upd ((Upd.below HX.out.2).trans (HX.out.1.mono HX.out.2.size)) (upd_setCell w4 (w.heap.size + 1) 0 _) (Nat.le_refl _) (fun k e => by omega)) (upd_setCell _ (w.heap.size + 1 + 1) 0 _) (Nat.le_refl _) (fun k e => by omega)
  generalize (w4.setCell ⟨w.heap.size + 1, 0, none⟩ (.int .i64 n)).setCell ⟨w.heap.size + 1 + 1, 0, none⟩ (.int .i64 cd) = w5 at *
  simp [Leaves, settle, results, Tryz.results122, load_int d1, load_errno d2, asAddr, Sem.run_bind, Result.andThen]
  exact ⟨rfl, d3⟩
structure LogI (w : World) (l b base n fi : Nat) : Prop where
  str : w.heap[l]? = some (.cells #[.pointer (some ⟨b, 0, none⟩), .int .i64 (base : Int), .int .i64 (n : Int), .func (.func 20) #[] #[], .func (.func 16) #[] #[], .func (.func fi) #[] #[]] 139 (0, 0))
theorem LogI.lt {w : World} {l b base n fi : Nat} (h : LogI w l b base n fi) : l < w.heap.size := lt_of_block h.str
theorem LogI.keep {w w' : World} {l b base n fi : Nat} (h : LogI w l b base n fi) {S : Nat → Prop} (hu : Upd S w w') (hs : ¬ S l) : LogI w' l b base n fi := ⟨(hu.block l h.lt hs).trans h.str⟩
theorem LogI.below {w w' : World} {l b base n fi : Nat} (h : LogI w l b base n fi) (hb : Below w.heap.size w w') : LogI w' l b base n fi := h.keep (Upd.of_below (S := fun _ => False) hb) (fun h => h)
theorem LogI.c {w : World} {l b base n fi : Nat} (h : LogI w l b base n fi) : w.cell? ⟨l, 0, none⟩ = some (.pointer (some ⟨b, 0, none⟩)) ∧ w.cell? ⟨l, 1, none⟩ = some (.int .i64 (base : Int)) ∧ w.cell? ⟨l, 2, none⟩ = some (.int .i64 (n : Int)) ∧
    w.cell? ⟨l, 3, none⟩ = some (.func (.func 20) #[] #[]) ∧ w.cell? ⟨l, 4, none⟩ = some (.func (.func 16) #[] #[]) ∧ w.cell? ⟨l, 5, none⟩ = some (.func (.func fi) #[] #[]) :=
  ⟨cell_of_block h.str 0, cell_of_block h.str 1, cell_of_block h.str 2, cell_of_block h.str 3, cell_of_block h.str 4, cell_of_block h.str 5⟩
def TellsI (fi : Nat) : Prop := (∀ args w, (callFunc fi args).run Tryz.prog w = .ok (.enter fi args) w) ∧ ∀ (W : World) (a : Int) (xs : List Value), xs[0]? = some (.int .i64 a) → (Tryz.prog.info? 39).map (·.size) = some xs.length →
  Calls Tryz.prog fi #[.agg xs.toArray] W fun e W' => e = .returned (.int .i64 a) ∧ Below W.heap.size W W'
set_option maxRecDepth 100000 in
set_option maxHeartbeats 1000000 in
theorem numberI1 {w : World} {l g b base n fi : Nat} (h : LogI w l b base n fi) (hg : w.cell? ⟨g, 0, none⟩ = some (.pointer (some ⟨l, 0, none⟩))) (hfi : TellsI fi) (a : Int) (xs : List Value) (hx0 : xs[0]? = some (.int .i64 a)) (hx : (Tryz.prog.info? 39).map (·.size) = some xs.length) :
    Calls Tryz.prog 123 #[.agg xs.toArray, .pointer (some ⟨g, 0, none⟩)] w (NumPost w a 0) := by
  have ent := hfi.1
  have H := Lib.hid (And.intro hx (And.intro hfi.2 hx0))
  have hua : Upd (fun _ => False) w (w.alloc (.cells xs.toArray 39)) := (Upd.refl _ _).alloc _
  have hr := range_of_block (heap_alloc_last w (.cells xs.toArray 39) rfl)
  have c0 := hua.cellv hg (fun h => h)
  have c5 := hua.cellv h.c.2.2.2.2.2 (fun h => h)
  have HU := Lib.hid hua
  clear hx hfi h hg hua hx0
  go_enter Tryz.func123, Tryz.ntmps123
  go_wp2_with fail
  generalize w.alloc (.cells xs.toArray 39) = w1 at *
  obtain ⟨m, hm⟩ : ∃ m, m = w.heap.size := ⟨_, rfl⟩
  rw [← hm]
  rw [← hm] at hr
  have HM := Lib.hid hm
  clear hm
  refine wp_region_held_drew (S := fun W => W.cell? ⟨g, 0, none⟩ = some (.pointer (some ⟨l, 0, none⟩)) ∧ W.cell? ⟨l, 5, none⟩ = some (.func (.func fi) #[] #[]) ∧ W.rangeAt m 0 xs) (by kernel_rfl) (⟨by rw [World.cell?_drew]; exact c0, by rw [World.cell?_drew]; exact c5, by rw [World.rangeAt_drew]; exact hr⟩) (fun hHeld => ?_)
  refine tk (i := 0) (v := ?_) rfl ?_ hHeld ?_
  rotate_left
  · intro W hSw; (try dsimp only at hSw); (try go_split_ands); go_simp; (try with_reducible rfl)
  simp only [List.getElem_toArray, List.getElem_cons_zero, Act.put, List.setIfInBounds_toArray, List.set_cons_zero, List.set_cons_succ]
  refine tk (i := 1) (v := ?_) rfl ?_ hHeld ?_
  rotate_left
  · intro W hSw; (try dsimp only at hSw); (try go_split_ands); go_simp; (try with_reducible rfl)
  simp only [List.getElem_toArray, List.getElem_cons_succ, List.getElem_cons_zero, Act.put, List.setIfInBounds_toArray, List.set_cons_zero, List.set_cons_succ]
  refine tk (i := 2) (v := ?_) rfl ?_ hHeld ?_
  rotate_left
  · intro W hSw; (try dsimp only at hSw); (try go_split_ands); go_simp; (try with_reducible rfl)
  simp only [List.getElem_toArray, List.getElem_cons_succ, List.getElem_cons_zero, Act.put, List.setIfInBounds_toArray, List.set_cons_zero, List.set_cons_succ]
  refine tk (i := 3) (v := ?_) rfl ?_ hHeld ?_
  rotate_left
  · intro W hSw; (try dsimp only at hSw); (try go_split_ands); go_simp; (try with_reducible rfl)
  simp only [List.getElem_toArray, List.getElem_cons_succ, List.getElem_cons_zero, Act.put, List.setIfInBounds_toArray, List.set_cons_zero, List.set_cons_succ]
  refine' wpAnyH_take (i := 4) rfl (by kernel_rfl) (by kernel_rfl) (by kernel_rfl) (fun _ _ _ h => h) (yieldsIf_load_mid (by rfl) _ _ rfl _ _ rfl _ _ (fun w h => h.2.2) Tryz.underlying39 rfl H.out.1) hHeld _
  simp only [List.getElem_toArray, List.getElem_cons_succ, List.getElem_cons_zero, Act.put, List.setIfInBounds_toArray, List.set_cons_zero, List.set_cons_succ]
  refine wpAnyH_ready (rs := [5]) (by kernel_rfl) (by simp) ?_
  refine AllReadyH.cons rfl (fun K hK => ?_) AllReadyH.nil
  go_simp
  refine (H.out.2.1 _ a xs H.out.2.2 H.out.1).mono ?_
  rintro e w2 ⟨rfl, hb2⟩
  refine hK.out _ _ (⟨(Upd.of_below (S := fun _ => False) hb2).cellv hHeld.1 (fun h => h), (Upd.of_below (S := fun _ => False) hb2).cellv hHeld.2.1 (fun h => h), Below.range hb2 hHeld.2.2⟩) (fun hHeld2 => ?_)
  clear hK K
  refine wpAnyH_ready (rs := [6]) (by kernel_rfl) (by simp) ?_
  refine AllReadyH.cons rfl (fun K hK => ?_) AllReadyH.nil
  go_simp
  refine hK.out _ _ (hHeld2) (fun _ => ?_)
  clear hK K
  refine wpAnyH_ready (rs := [7]) (by kernel_rfl) (by simp) ?_
  refine AllReadyH.cons rfl (fun K hK => ?_) AllReadyH.nil
  go_simp
  refine hK.out _ _ (hHeld2) (fun _ => ?_)
  clear hK K
  refine wpAnyH_done (by kernel_rfl) ?_ _
  have HB := Lib.hid (bundrew' hb2)
  have hlt := HU.out.size
  clear hb2 hHeld hHeld2 c0 c5 hr
  go_wp2
  go_ret2
  exact ⟨rfl, (Upd.below HU.out).trans (HB.out.mono HU.out.size)⟩
set_option maxRecDepth 100000 in
set_option maxHeartbeats 1000000 in
theorem numberI {w : World} {l b base n fi : Nat} (h : LogI w l b base n fi) (hfi : TellsI fi) (a : Int) (xs : List Value) (hx0 : xs[0]? = some (.int .i64 a)) (hx : (Tryz.prog.info? 39).map (·.size) = some xs.length) :
    Calls Tryz.prog 63 #[.pointer (some ⟨l, 0, none⟩), .agg xs.toArray] w (NumPost w a 0) := by
  have hmf : ∀ (fn : Fn) (first cap : Array Value) (w : World), (Instr.makeFunc fn first cap).run Tryz.prog w = .ok (.func fn first cap) w := fun _ _ _ _ => rfl
  have hu : Upd (fun _ => False) w ((w.alloc (.cells #[.pointer (some ⟨l, 0, none⟩)] 24)).alloc (.cells xs.toArray 39)) := ((Upd.refl _ w).alloc _).alloc _
  have c0 : ((w.alloc (.cells #[.pointer (some ⟨l, 0, none⟩)] 24)).alloc (.cells xs.toArray 39)).cell? ⟨w.heap.size, 0, none⟩ = some (.pointer (some ⟨l, 0, none⟩)) := cell_keep_alloc (cell_of_block (heap_alloc_last w _ rfl) 0) _
  have hr : ((w.alloc (.cells #[.pointer (some ⟨l, 0, none⟩)] 24)).alloc (.cells xs.toArray 39)).rangeAt (w.heap.size + 1) 0 xs := range_of_block (heap_alloc_last _ _ (by simp))
  have H := Lib.hid (And.intro (h.keep hu (fun h => h)) (And.intro hfi (And.intro hx0 (And.intro hx hu))))
  clear h hfi hx0 hx hu
  go_enter Tryz.func63, Tryz.ntmps63
  go_wp2_with (first
    | (refine wpList_load_mid rfl _ _ rfl _ _ rfl _ _ hr Tryz.underlying39 rfl H.out.2.2.2.1 ?_)
    | fail)
  generalize (w.alloc (.cells #[.pointer (some ⟨l, 0, none⟩)] 24)).alloc (.cells xs.toArray 39) = w2 at *
  refine (guardIN xs H.out.2.2.2.1 123 #[.pointer (some ⟨w.heap.size, 0, none⟩)] (fun _ _ => rfl) a 0 ?_).mono ?_
  · intro W hW
    exact numberI1 (H.out.1.below hW) ((Upd.of_below (S := fun _ => False) hW).cellv c0 (fun h => h)) H.out.2.1 a xs H.out.2.2.1 H.out.2.2.2.1
  · rintro e w3 ⟨rfl, hb3⟩
    have HB := Lib.hid hb3
    clear hb3 c0 hr
    go_wp2
    go_ret2
    exact ⟨rfl, (Upd.below H.out.2.2.2.2).trans (HB.out.mono H.out.2.2.2.2.size)⟩
end Go.Proofs.YtnadilfobmgebaaGreatDoor
