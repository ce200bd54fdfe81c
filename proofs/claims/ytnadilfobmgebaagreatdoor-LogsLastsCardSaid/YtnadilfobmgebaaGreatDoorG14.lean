/- What a function answers that is handed in (guard), for a log's things. What a function answers that is handed in (guard), for a log's things. -/
import Derived.Test.YtnadilfobmgebaaGreatDoorG13
import Derived.Defers
import Derived.Recover
namespace Go.Proofs.YtnadilfobmgebaaGreatDoor
open Go Go.RowKit
theorem results_mid_c {P : Program} {fn : Func} {p q : Tmp} {ty ty2 : TypeId} (h : fn.results = #[.cell p ty, .cell q ty2]) (tmps : Array Value) (w : World) (b o : Nat) (cs : List Value) (d : TypeDesc)
    (hp : tmps.getD p undef = .pointer (some ⟨b, o, none⟩)) (hc : w.rangeAt b o cs) (hu : P.underlying ty = some d) (hd : d.isRow = true) (hi : (P.info? ty).map (·.size) = some cs.length)
    (g : Nat) (v : Value) (hq : tmps.getD q undef = .pointer (some ⟨g, 0, none⟩)) (hv : (loadVar ty2 ⟨g, 0, none⟩).run P w = .ok v w) :
    (results fn tmps).run P w = .ok (.tuple #[.agg cs.toArray, v]) w := by
  have hp' : tmps[p]?.getD undef = .pointer (some ⟨b, o, none⟩) := by simpa using hp
  have hq' : tmps[q]?.getD undef = .pointer (some ⟨g, 0, none⟩) := by simpa using hq
  simp [results, h, hp', hq', asAddr, run_loadVar_mid w b o ty cs d hc hu hd hi, hv, Sem.run_bind, Result.andThen]
theorem load_errno {w : World} {g : Nat} {cd : Int} (h : w.cell? ⟨g, 0, none⟩ = some (.int .i64 cd)) : (loadVar 40 ⟨g, 0, none⟩).run Tryz.prog w = .ok (.int .i64 cd) w := by
  simp [go_sem, h]
theorem load_int {w : World} {g : Nat} {cd : Int} (h : w.cell? ⟨g, 0, none⟩ = some (.int .i64 cd)) : (loadVar 3 ⟨g, 0, none⟩).run Tryz.prog w = .ok (.int .i64 cd) w := by
  simp [go_sem, h]
def GuardPost (w : World) (R : List Value → Int → Prop) (e : Ending) (w' : World) : Prop := ∃ ys cd, R ys cd ∧ e = .returned (.tuple #[.agg ys.toArray, .int .i64 cd]) ∧ Below w.heap.size w w'
def NumPost (w : World) (n cd : Int) (e : Ending) (w' : World) : Prop := e = .returned (.tuple #[.int .i64 n, .int .i64 cd]) ∧ Below w.heap.size w w'
theorem guardIB_idle (p q : Value) (w : World) :
    CallsD Tryz.prog 129 #[p, q] .returning w fun e u' w' => e = .returned (.tuple #[]) ∧ u' = .returning ∧ w' = w := by
  refine callsD_of_wpS Tryz.func129 rfl fun c₀ cs hu => ?_
  apply wpS_seq
  apply wpS_region
  simp [wpOpsS, go_sem, recoverD, hu, Tryz.ntmps129, Exit.thenS]
  refine wpS_cond (t := false) (by simp [Act.eval, Array.replicate]) ?_
  simp only [Bool.false_eq_true, if_false]
  refine wpS_of_wp (wp_skip ?_)
  cases c₀
  simp_all [bodyPostS, results, Tryz.results129]
set_option maxRecDepth 100000 in
set_option maxHeartbeats 1000000 in
theorem guardIB {w : World} (xs : List Value) (hxs : (Tryz.prog.info? 39).map (·.size) = some xs.length) (ff : Nat) (cc : Array Value) (ent : ∀ args w, (callFunc ff args).run Tryz.prog w = .ok (.enter ff args) w)
    (R : List Value → Int → Prop) (hR : ∀ ys cd, R ys cd → ys.length = 64 ∧ ∀ v ∈ ys, v.oneCell' = true)
    (hf : ∀ W, Below w.heap.size w W → Calls Tryz.prog ff (#[.agg xs.toArray] ++ cc) W (GuardPost W R)) :
    Calls Tryz.prog 71 #[.func (.func ff) #[] cc, .agg xs.toArray] w (GuardPost w R) := by
  have hmf : ∀ (fn : Fn) (first cap : Array Value) (w : World), (Instr.makeFunc fn first cap).run Tryz.prog w = .ok (.func fn first cap) w := fun _ _ _ _ => rfl
  have HF := Lib.hid (And.intro hf (And.intro hR hxs))
  clear hf hR hxs
  have hr := range_of_block (heap_alloc_last w (.cells xs.toArray 39) rfl)
  go_enter_defers Tryz.func71, Tryz.ntmps71
  go_wp2_with (first
    | (refine wpList_load_mid rfl _ _ rfl _ _ rfl _ _ (World.rangeAt_alloc (World.rangeAt_alloc hr _) _) Tryz.underlying39 rfl HF.out.2.2 ?_)
    | fail)
  show Calls _ _ _ (((w.alloc (.cells xs.toArray 39)).alloc (.cells (bkC zB).toArray 23)).alloc (.cells #[.int .i64 0] 40)) _
  obtain ⟨h1, h2, h3, h4, h5⟩ := three_new w (.cells xs.toArray 39) (.cells (bkC zB).toArray 23) (.cells #[.int .i64 0] 40)
  clear hr
  generalize ((w.alloc (.cells xs.toArray 39)).alloc (.cells (bkC zB).toArray 23)).alloc (.cells #[.int .i64 0] 40) = w3 at *
  refine (HF.out.1 w3 (Upd.below h5)).mono ?_
  rintro e w4 ⟨ys, cd, hRR, rfl, hb4⟩
  have g2 := (hb4.block _ (lt_of_block h2)).trans h2
  have g3 := (hb4.block _ (lt_of_block h3)).trans h3
  have hyl := HF.out.2.1 ys cd hRR
  have hth : w4.there (w.heap.size + 1) 0 64 := fun j hj => by
    rw [cell_of_block g2, frozen_of_block g2]
    exact ⟨by rw [Nat.zero_add, Array.getElem?_eq_getElem (by rw [bkC_size _ zB_len]; exact hj)]; rfl, rfl⟩
  have hst : w4.there (w.heap.size + 1) 0 ys.toArray.size := by rw [show ys.toArray.size = 64 by simpa using hyl.1]; exact hth
  have hsz2 : (Tryz.prog.info? 23).map (·.size) = some ys.toArray.size := by rw [show ys.toArray.size = 64 by simpa using hyl.1]; exact sizeBk'
  have g3' := ((upd_row w4 (w.heap.size + 1) 0 ys).block (w.heap.size + 1 + 1) (lt_of_block g3) (by omega)).trans g3
  have c3 : (w4.setCells (w.heap.size + 1) 0 ys).cell? ⟨w.heap.size + 1 + 1, 0, none⟩ = some (.int .i64 0) := cell_of_block g3' 0
  have z3 := frozen_of_block g3' 0
  have HX := Lib.hid (And.intro hst (And.intro hsz2 (And.intro hyl (And.intro hRR (And.intro hb4 (And.intro h5 (And.intro h4 hth)))))))
  clear hst hsz2 hyl hRR hb4 h5 h4 h1 h2 h3 g2 g3 hth
  go_wp2_with (first
    | (refine wpList_store_mid rfl _ _ _ rfl _ _ ys.toArray rfl rfl HX.out.1 HX.out.2.1 (all_oneCell_toArray HX.out.2.2.1.2) ?_)
    | fail)
  refine leaves_cons (f := 129) (args := #[.pointer (some ⟨w.heap.size + 1, 0, none⟩), .pointer (some ⟨w.heap.size + 1 + 1, 0, none⟩)]) (by simp) (by simp [go_sem]) ?_
  refine (guardIB_idle _ _ _).mono ?_
  rintro e u' w'' ⟨rfl, rfl, rfl⟩
  simp [Leaves, settle]
  have hst2 : w4.there (w.heap.size + 1) 0 ys.length := by rw [HX.out.2.2.1.1]; exact HX.out.2.2.2.2.2.2.2
  have r1 := World.rangeAt_setCells_same w4 (w.heap.size + 1) 0 ys hst2
  have r2 : ((w4.setCells (w.heap.size + 1) 0 ys).setCell ⟨w.heap.size + 1 + 1, 0, none⟩ (.int .i64 cd)).rangeAt (w.heap.size + 1) 0 ys := range_keep_set r1 (by omega)
  have c4 : ((w4.setCells (w.heap.size + 1) 0 ys).setCell ⟨w.heap.size + 1 + 1, 0, none⟩ (.int .i64 cd)).cell? ⟨w.heap.size + 1 + 1, 0, none⟩ = some (.int .i64 cd) := World.cell?_setCell_same _ _ _ c3
  refine ⟨_, results_mid_c rfl _ _ (w.heap.size + 1) 0 ys _ rfl r2 Tryz.underlying23 rfl (by rw [HX.out.2.2.1.1]; exact sizeBk') (w.heap.size + 1 + 1) _ rfl (load_errno c4), ⟨ys, cd, HX.out.2.2.2.1, rfl, ?_⟩⟩
  refine below_upd (below_upd ((Upd.below HX.out.2.2.2.2.2.1).trans (HX.out.2.2.2.2.1.mono HX.out.2.2.2.2.2.1.size)) (upd_row w4 (w.heap.size + 1) 0 ys) (Nat.le_refl _) (fun k e => by omega)) (upd_setCell _ (w.heap.size + 1 + 1) 0 _) (Nat.le_refl _) (fun k e => by omega)
theorem guardBI_idle (p q : Value) (w : World) :
    CallsD Tryz.prog 121 #[p, q] .returning w fun e u' w' => e = .returned (.tuple #[]) ∧ u' = .returning ∧ w' = w := by
  refine callsD_of_wpS Tryz.func121 rfl fun c₀ cs hu => ?_
  apply wpS_seq
  apply wpS_region
  simp [wpOpsS, go_sem, recoverD, hu, Tryz.ntmps121, Exit.thenS]
  refine wpS_cond (t := false) (by simp [Act.eval, Array.replicate]) ?_
  simp only [Bool.false_eq_true, if_false]
  refine wpS_of_wp (wp_skip ?_)
  cases c₀
  simp_all [bodyPostS, results, Tryz.results121]
set_option maxRecDepth 100000 in
set_option maxHeartbeats 1000000 in
theorem guardBI {w : World} (xs : List Value) (hxs : (Tryz.prog.info? 23).map (·.size) = some xs.length) (ff : Nat) (cc : Array Value) (ent : ∀ args w, (callFunc ff args).run Tryz.prog w = .ok (.enter ff args) w)
    (R : List Value → Int → Prop) (hR : ∀ ys cd, R ys cd → ys.length = 4 ∧ ∀ v ∈ ys, v.oneCell' = true)
    (hf : ∀ W, Below w.heap.size w W → Calls Tryz.prog ff (#[.agg xs.toArray] ++ cc) W (GuardPost W R)) :
    Calls Tryz.prog 62 #[.func (.func ff) #[] cc, .agg xs.toArray] w (GuardPost w R) := by
  have hmf : ∀ (fn : Fn) (first cap : Array Value) (w : World), (Instr.makeFunc fn first cap).run Tryz.prog w = .ok (.func fn first cap) w := fun _ _ _ _ => rfl
  have HF := Lib.hid (And.intro hf (And.intro hR hxs))
  clear hf hR hxs
  have hr := range_of_block (heap_alloc_last w (.cells xs.toArray 23) rfl)
  go_enter_defers Tryz.func62, Tryz.ntmps62
  go_wp2_with (first
    | (refine wpList_load_mid rfl _ _ rfl _ _ rfl _ _ (World.rangeAt_alloc (World.rangeAt_alloc hr _) _) Tryz.underlying23 rfl HF.out.2.2 ?_)
    | fail)
  show Calls _ _ _ (((w.alloc (.cells xs.toArray 23)).alloc (.cells [Value.int .i64 0, Value.int .i64 0, Value.int .i64 0, Value.int .i64 0].toArray 39)).alloc (.cells #[.int .i64 0] 40)) _
  obtain ⟨h1, h2, h3, h4, h5⟩ := three_new w (.cells xs.toArray 23) (.cells [Value.int .i64 0, Value.int .i64 0, Value.int .i64 0, Value.int .i64 0].toArray 39) (.cells #[.int .i64 0] 40)
  clear hr
  generalize ((w.alloc (.cells xs.toArray 23)).alloc (.cells [Value.int .i64 0, Value.int .i64 0, Value.int .i64 0, Value.int .i64 0].toArray 39)).alloc (.cells #[.int .i64 0] 40) = w3 at *
  refine (HF.out.1 w3 (Upd.below h5)).mono ?_
  rintro e w4 ⟨ys, cd, hRR, rfl, hb4⟩
  have g2 := (hb4.block _ (lt_of_block h2)).trans h2
  have g3 := (hb4.block _ (lt_of_block h3)).trans h3
  have hyl := HF.out.2.1 ys cd hRR
  have hth : w4.there (w.heap.size + 1) 0 4 := fun j hj => by
    rw [cell_of_block g2, frozen_of_block g2]
    exact ⟨by rw [Nat.zero_add, Array.getElem?_eq_getElem (by simpa using hj)]; rfl, rfl⟩
  have hst : w4.there (w.heap.size + 1) 0 ys.toArray.size := by rw [show ys.toArray.size = 4 by simpa using hyl.1]; exact hth
  have hsz2 : (Tryz.prog.info? 39).map (·.size) = some ys.toArray.size := by rw [show ys.toArray.size = 4 by simpa using hyl.1]; exact infoIn
  have g3' := ((upd_row w4 (w.heap.size + 1) 0 ys).block (w.heap.size + 1 + 1) (lt_of_block g3) (by omega)).trans g3
  have c3 : (w4.setCells (w.heap.size + 1) 0 ys).cell? ⟨w.heap.size + 1 + 1, 0, none⟩ = some (.int .i64 0) := cell_of_block g3' 0
  have z3 := frozen_of_block g3' 0
  have HX := Lib.hid (And.intro hst (And.intro hsz2 (And.intro hyl (And.intro hRR (And.intro hb4 (And.intro h5 (And.intro h4 hth)))))))
  clear hst hsz2 hyl hRR hb4 h5 h4 h1 h2 h3 g2 g3 hth
  go_wp2_with (first
    | (refine wpList_store_mid rfl _ _ _ rfl _ _ ys.toArray rfl rfl HX.out.1 HX.out.2.1 (all_oneCell_toArray HX.out.2.2.1.2) ?_)
    | fail)
  refine leaves_cons (f := 121) (args := #[.pointer (some ⟨w.heap.size + 1, 0, none⟩), .pointer (some ⟨w.heap.size + 1 + 1, 0, none⟩)]) (by simp) (by simp [go_sem]) ?_
  refine (guardBI_idle _ _ _).mono ?_
  rintro e u' w'' ⟨rfl, rfl, rfl⟩
  simp [Leaves, settle]
  have hst2 : w4.there (w.heap.size + 1) 0 ys.length := by rw [HX.out.2.2.1.1]; exact HX.out.2.2.2.2.2.2.2
  have r1 := World.rangeAt_setCells_same w4 (w.heap.size + 1) 0 ys hst2
  have r2 : ((w4.setCells (w.heap.size + 1) 0 ys).setCell ⟨w.heap.size + 1 + 1, 0, none⟩ (.int .i64 cd)).rangeAt (w.heap.size + 1) 0 ys := range_keep_set r1 (by omega)
  have c4 : ((w4.setCells (w.heap.size + 1) 0 ys).setCell ⟨w.heap.size + 1 + 1, 0, none⟩ (.int .i64 cd)).cell? ⟨w.heap.size + 1 + 1, 0, none⟩ = some (.int .i64 cd) := World.cell?_setCell_same _ _ _ c3
  refine ⟨_, results_mid_c rfl _ _ (w.heap.size + 1) 0 ys _ rfl r2 Tryz.underlying39 rfl (by rw [HX.out.2.2.1.1]; exact infoIn) (w.heap.size + 1 + 1) _ rfl (load_errno c4), ⟨ys, cd, HX.out.2.2.2.1, rfl, ?_⟩⟩
  refine below_upd (below_upd ((Upd.below HX.out.2.2.2.2.2.1).trans (HX.out.2.2.2.2.1.mono HX.out.2.2.2.2.2.1.size)) (upd_row w4 (w.heap.size + 1) 0 ys) (Nat.le_refl _) (fun k e => by omega)) (upd_setCell _ (w.heap.size + 1 + 1) 0 _) (Nat.le_refl _) (fun k e => by omega)
theorem guardIN_idle (p q : Value) (w : World) :
    CallsD Tryz.prog 169 #[p, q] .returning w fun e u' w' => e = .returned (.tuple #[]) ∧ u' = .returning ∧ w' = w := by
  refine callsD_of_wpS Tryz.func169 rfl fun c₀ cs hu => ?_
  apply wpS_seq
  apply wpS_region
  simp [wpOpsS, go_sem, recoverD, hu, Tryz.ntmps169, Exit.thenS]
  refine wpS_cond (t := false) (by simp [Act.eval, Array.replicate]) ?_
  simp only [Bool.false_eq_true, if_false]
  refine wpS_of_wp (wp_skip ?_)
  cases c₀
  simp_all [bodyPostS, results, Tryz.results169]
set_option maxRecDepth 100000 in
set_option maxHeartbeats 1000000 in
theorem guardIN {w : World} (xs : List Value) (hxs : (Tryz.prog.info? 39).map (·.size) = some xs.length) (ff : Nat) (cc : Array Value) (ent : ∀ args w, (callFunc ff args).run Tryz.prog w = .ok (.enter ff args) w)
    (n cd : Int) (hf : ∀ W, Below w.heap.size w W → Calls Tryz.prog ff (#[.agg xs.toArray] ++ cc) W (NumPost W n cd)) :
    Calls Tryz.prog 122 #[.func (.func ff) #[] cc, .agg xs.toArray] w (NumPost w n cd) := by
  have hmf : ∀ (fn : Fn) (first cap : Array Value) (w : World), (Instr.makeFunc fn first cap).run Tryz.prog w = .ok (.func fn first cap) w := fun _ _ _ _ => rfl
  have HF := Lib.hid (And.intro hf hxs)
  clear hf hxs
  have hr := range_of_block (heap_alloc_last w (.cells xs.toArray 39) rfl)
  go_enter_defers Tryz.func122, Tryz.ntmps122
  go_wp2_with (first
    | (refine wpList_load_mid rfl _ _ rfl _ _ rfl _ _ (World.rangeAt_alloc (World.rangeAt_alloc hr _) _) Tryz.underlying39 rfl HF.out.2 ?_)
    | fail)
  obtain ⟨h1, h2, h3, h4, h5⟩ := three_new w (.cells xs.toArray 39) (.cells #[.int .i64 0] 3) (.cells #[.int .i64 0] 40)
  clear hr
  generalize ((w.alloc (.cells xs.toArray 39)).alloc (.cells #[.int .i64 0] 3)).alloc (.cells #[.int .i64 0] 40) = w3 at *
  refine (HF.out.1 w3 (Upd.below h5)).mono ?_
  rintro e w4 ⟨rfl, hb4⟩
  have g2 := (hb4.block _ (lt_of_block h2)).trans h2
  have g3 := (hb4.block _ (lt_of_block h3)).trans h3
  have c2 : w4.cell? ⟨w.heap.size + 1, 0, none⟩ = some (.int .i64 0) := cell_of_block g2 0
  have z2 := frozen_of_block g2 0
  have c3 : w4.cell? ⟨w.heap.size + 1 + 1, 0, none⟩ = some (.int .i64 0) := cell_of_block g3 0
  have z3 := frozen_of_block g3 0
  have HX := Lib.hid (And.intro hb4 h5)
  clear hb4 h5 h4 h1 h2 h3 g2 g3
  go_wp2
  refine leaves_cons (f := 169) (args := #[.pointer (some ⟨w.heap.size + 1, 0, none⟩), .pointer (some ⟨w.heap.size + 1 + 1, 0, none⟩)]) (by simp) (by simp [go_sem]) ?_
  refine (guardIN_idle _ _ _).mono ?_
  rintro e u' w'' ⟨rfl, rfl, rfl⟩
  have d1 : ((w4.setCell ⟨w.heap.size + 1, 0, none⟩ (.int .i64 n)).setCell ⟨w.heap.size + 1 + 1, 0, none⟩ (.int .i64 cd)).cell? ⟨w.heap.size + 1, 0, none⟩ = some (.int .i64 n) := cell_keep_set (World.cell?_setCell_same _ _ _ c2) (by omega)
  have d2 : ((w4.setCell ⟨w.heap.size + 1, 0, none⟩ (.int .i64 n)).setCell ⟨w.heap.size + 1 + 1, 0, none⟩ (.int .i64 cd)).cell? ⟨w.heap.size + 1 + 1, 0, none⟩ = some (.int .i64 cd) := World.cell?_setCell_same _ _ _ (cell_keep_set c3 (by omega))
  have d3 : Below w.heap.size w ((w4.setCell ⟨w.heap.size + 1, 0, none⟩ (.int .i64 n)).setCell ⟨w.heap.size + 1 + 1, 0, none⟩ (.int .i64 cd)) :=
    below_upd (below_upd ((Upd.below HX.out.2).trans (HX.out.1.mono HX.out.2.size)) (upd_setCell w4 (w.heap.size + 1) 0 _) (Nat.le_refl _) (fun k e => by omega)) (upd_setCell _ (w.heap.size + 1 + 1) 0 _) (Nat.le_refl _) (fun k e => by omega)
  generalize (w4.setCell ⟨w.heap.size + 1, 0, none⟩ (.int .i64 n)).setCell ⟨w.heap.size + 1 + 1, 0, none⟩ (.int .i64 cd) = w5 at *
  simp [Leaves, settle, results, Tryz.results122, load_int d1, load_errno d2, asAddr, Sem.run_bind, Result.andThen]
  exact ⟨rfl, d3⟩
theorem infoCe : (Tryz.prog.info? 54).map (·.size) = some 6 := by kernel_rfl
theorem guardCB_idle (p q : Value) (w : World) :
    CallsD Tryz.prog 131 #[p, q] .returning w fun e u' w' => e = .returned (.tuple #[]) ∧ u' = .returning ∧ w' = w := by
  refine callsD_of_wpS Tryz.func131 rfl fun c₀ cs hu => ?_
  apply wpS_seq
  apply wpS_region
  simp [wpOpsS, go_sem, recoverD, hu, Tryz.ntmps131, Exit.thenS]
  refine wpS_cond (t := false) (by simp [Act.eval, Array.replicate]) ?_
  simp only [Bool.false_eq_true, if_false]
  refine wpS_of_wp (wp_skip ?_)
  cases c₀
  simp_all [bodyPostS, results, Tryz.results131]
set_option maxRecDepth 100000 in
set_option maxHeartbeats 1000000 in
theorem guardCB {w : World} (xs : List Value) (hxs : (Tryz.prog.info? 54).map (·.size) = some xs.length) (ff : Nat) (cc : Array Value) (ent : ∀ args w, (callFunc ff args).run Tryz.prog w = .ok (.enter ff args) w)
    (R : List Value → Int → Prop) (hR : ∀ ys cd, R ys cd → ys.length = 64 ∧ ∀ v ∈ ys, v.oneCell' = true)
    (hf : ∀ W, Below w.heap.size w W → Calls Tryz.prog ff (#[.agg xs.toArray] ++ cc) W (GuardPost W R)) :
    Calls Tryz.prog 73 #[.func (.func ff) #[] cc, .agg xs.toArray] w (GuardPost w R) := by
  have hmf : ∀ (fn : Fn) (first cap : Array Value) (w : World), (Instr.makeFunc fn first cap).run Tryz.prog w = .ok (.func fn first cap) w := fun _ _ _ _ => rfl
  have HF := Lib.hid (And.intro hf (And.intro hR hxs))
  clear hf hR hxs
  have hr := range_of_block (heap_alloc_last w (.cells xs.toArray 54) rfl)
  go_enter_defers Tryz.func73, Tryz.ntmps73
  go_wp2_with (first
    | (refine wpList_load_mid rfl _ _ rfl _ _ rfl _ _ (World.rangeAt_alloc (World.rangeAt_alloc hr _) _) Tryz.underlying54 rfl HF.out.2.2 ?_)
    | fail)
  show Calls _ _ _ (((w.alloc (.cells xs.toArray 54)).alloc (.cells (bkC zB).toArray 23)).alloc (.cells #[.int .i64 0] 40)) _
  obtain ⟨h1, h2, h3, h4, h5⟩ := three_new w (.cells xs.toArray 54) (.cells (bkC zB).toArray 23) (.cells #[.int .i64 0] 40)
  clear hr
  generalize ((w.alloc (.cells xs.toArray 54)).alloc (.cells (bkC zB).toArray 23)).alloc (.cells #[.int .i64 0] 40) = w3 at *
  refine (HF.out.1 w3 (Upd.below h5)).mono ?_
  rintro e w4 ⟨ys, cd, hRR, rfl, hb4⟩
  have g2 := (hb4.block _ (lt_of_block h2)).trans h2
  have g3 := (hb4.block _ (lt_of_block h3)).trans h3
  have hyl := HF.out.2.1 ys cd hRR
  have hth : w4.there (w.heap.size + 1) 0 64 := fun j hj => by
    rw [cell_of_block g2, frozen_of_block g2]
    exact ⟨by rw [Nat.zero_add, Array.getElem?_eq_getElem (by rw [bkC_size _ zB_len]; exact hj)]; rfl, rfl⟩
  have hst : w4.there (w.heap.size + 1) 0 ys.toArray.size := by rw [show ys.toArray.size = 64 by simpa using hyl.1]; exact hth
  have hsz2 : (Tryz.prog.info? 23).map (·.size) = some ys.toArray.size := by rw [show ys.toArray.size = 64 by simpa using hyl.1]; exact sizeBk'
  have g3' := ((upd_row w4 (w.heap.size + 1) 0 ys).block (w.heap.size + 1 + 1) (lt_of_block g3) (by omega)).trans g3
  have c3 : (w4.setCells (w.heap.size + 1) 0 ys).cell? ⟨w.heap.size + 1 + 1, 0, none⟩ = some (.int .i64 0) := cell_of_block g3' 0
  have z3 := frozen_of_block g3' 0
  have HX := Lib.hid (And.intro hst (And.intro hsz2 (And.intro hyl (And.intro hRR (And.intro hb4 (And.intro h5 (And.intro h4 hth)))))))
  clear hst hsz2 hyl hRR hb4 h5 h4 h1 h2 h3 g2 g3 hth
  go_wp2_with (first
    | (refine wpList_store_mid rfl _ _ _ rfl _ _ ys.toArray rfl rfl HX.out.1 HX.out.2.1 (all_oneCell_toArray HX.out.2.2.1.2) ?_)
    | fail)
  refine leaves_cons (f := 131) (args := #[.pointer (some ⟨w.heap.size + 1, 0, none⟩), .pointer (some ⟨w.heap.size + 1 + 1, 0, none⟩)]) (by simp) (by simp [go_sem]) ?_
  refine (guardCB_idle _ _ _).mono ?_
  rintro e u' w'' ⟨rfl, rfl, rfl⟩
  simp [Leaves, settle]
  have hst2 : w4.there (w.heap.size + 1) 0 ys.length := by rw [HX.out.2.2.1.1]; exact HX.out.2.2.2.2.2.2.2
  have r1 := World.rangeAt_setCells_same w4 (w.heap.size + 1) 0 ys hst2
  have r2 : ((w4.setCells (w.heap.size + 1) 0 ys).setCell ⟨w.heap.size + 1 + 1, 0, none⟩ (.int .i64 cd)).rangeAt (w.heap.size + 1) 0 ys := range_keep_set r1 (by omega)
  have c4 : ((w4.setCells (w.heap.size + 1) 0 ys).setCell ⟨w.heap.size + 1 + 1, 0, none⟩ (.int .i64 cd)).cell? ⟨w.heap.size + 1 + 1, 0, none⟩ = some (.int .i64 cd) := World.cell?_setCell_same _ _ _ c3
  refine ⟨_, results_mid_c rfl _ _ (w.heap.size + 1) 0 ys _ rfl r2 Tryz.underlying23 rfl (by rw [HX.out.2.2.1.1]; exact sizeBk') (w.heap.size + 1 + 1) _ rfl (load_errno c4), ⟨ys, cd, HX.out.2.2.2.1, rfl, ?_⟩⟩
  refine below_upd (below_upd ((Upd.below HX.out.2.2.2.2.2.1).trans (HX.out.2.2.2.2.1.mono HX.out.2.2.2.2.2.1.size)) (upd_row w4 (w.heap.size + 1) 0 ys) (Nat.le_refl _) (fun k e => by omega)) (upd_setCell _ (w.heap.size + 1 + 1) 0 _) (Nat.le_refl _) (fun k e => by omega)
theorem guardBC_idle (p q : Value) (w : World) :
    CallsD Tryz.prog 208 #[p, q] .returning w fun e u' w' => e = .returned (.tuple #[]) ∧ u' = .returning ∧ w' = w := by
  refine callsD_of_wpS Tryz.func208 rfl fun c₀ cs hu => ?_
  apply wpS_seq
  apply wpS_region
  simp [wpOpsS, go_sem, recoverD, hu, Tryz.ntmps208, Exit.thenS]
  refine wpS_cond (t := false) (by simp [Act.eval, Array.replicate]) ?_
  simp only [Bool.false_eq_true, if_false]
  refine wpS_of_wp (wp_skip ?_)
  cases c₀
  simp_all [bodyPostS, results, Tryz.results208]
set_option maxRecDepth 100000 in
set_option maxHeartbeats 1000000 in
theorem guardBC {w : World} (xs : List Value) (hxs : (Tryz.prog.info? 23).map (·.size) = some xs.length) (ff : Nat) (cc : Array Value) (ent : ∀ args w, (callFunc ff args).run Tryz.prog w = .ok (.enter ff args) w)
    (R : List Value → Int → Prop) (hR : ∀ ys cd, R ys cd → ys.length = 6 ∧ ∀ v ∈ ys, v.oneCell' = true)
    (hf : ∀ W, Below w.heap.size w W → Calls Tryz.prog ff (#[.agg xs.toArray] ++ cc) W (GuardPost W R)) :
    Calls Tryz.prog 170 #[.func (.func ff) #[] cc, .agg xs.toArray] w (GuardPost w R) := by
  have hmf : ∀ (fn : Fn) (first cap : Array Value) (w : World), (Instr.makeFunc fn first cap).run Tryz.prog w = .ok (.func fn first cap) w := fun _ _ _ _ => rfl
  have HF := Lib.hid (And.intro hf (And.intro hR hxs))
  clear hf hR hxs
  have hr := range_of_block (heap_alloc_last w (.cells xs.toArray 23) rfl)
  go_enter_defers Tryz.func170, Tryz.ntmps170
  go_wp2_with (first
    | (refine wpList_load_mid rfl _ _ rfl _ _ rfl _ _ (World.rangeAt_alloc (World.rangeAt_alloc hr _) _) Tryz.underlying23 rfl HF.out.2.2 ?_)
    | fail)
  show Calls _ _ _ (((w.alloc (.cells xs.toArray 23)).alloc (.cells [Value.int .i64 0, Value.int .i64 0, Value.int .i64 0, Value.int .i64 0, Value.int .i64 0, Value.int .i64 0].toArray 54)).alloc (.cells #[.int .i64 0] 40)) _
  obtain ⟨h1, h2, h3, h4, h5⟩ := three_new w (.cells xs.toArray 23) (.cells [Value.int .i64 0, Value.int .i64 0, Value.int .i64 0, Value.int .i64 0, Value.int .i64 0, Value.int .i64 0].toArray 54) (.cells #[.int .i64 0] 40)
  clear hr
  generalize ((w.alloc (.cells xs.toArray 23)).alloc (.cells [Value.int .i64 0, Value.int .i64 0, Value.int .i64 0, Value.int .i64 0, Value.int .i64 0, Value.int .i64 0].toArray 54)).alloc (.cells #[.int .i64 0] 40) = w3 at *
  refine (HF.out.1 w3 (Upd.below h5)).mono ?_
  rintro e w4 ⟨ys, cd, hRR, rfl, hb4⟩
  have g2 := (hb4.block _ (lt_of_block h2)).trans h2
  have g3 := (hb4.block _ (lt_of_block h3)).trans h3
  have hyl := HF.out.2.1 ys cd hRR
  have hth : w4.there (w.heap.size + 1) 0 6 := fun j hj => by
    rw [cell_of_block g2, frozen_of_block g2]
    exact ⟨by rw [Nat.zero_add, Array.getElem?_eq_getElem (by simpa using hj)]; rfl, rfl⟩
  have hst : w4.there (w.heap.size + 1) 0 ys.toArray.size := by rw [show ys.toArray.size = 6 by simpa using hyl.1]; exact hth
  have hsz2 : (Tryz.prog.info? 54).map (·.size) = some ys.toArray.size := by rw [show ys.toArray.size = 6 by simpa using hyl.1]; exact infoCe
  have g3' := ((upd_row w4 (w.heap.size + 1) 0 ys).block (w.heap.size + 1 + 1) (lt_of_block g3) (by omega)).trans g3
  have c3 : (w4.setCells (w.heap.size + 1) 0 ys).cell? ⟨w.heap.size + 1 + 1, 0, none⟩ = some (.int .i64 0) := cell_of_block g3' 0
  have z3 := frozen_of_block g3' 0
  have HX := Lib.hid (And.intro hst (And.intro hsz2 (And.intro hyl (And.intro hRR (And.intro hb4 (And.intro h5 (And.intro h4 hth)))))))
  clear hst hsz2 hyl hRR hb4 h5 h4 h1 h2 h3 g2 g3 hth
  go_wp2_with (first
    | (refine wpList_store_mid rfl _ _ _ rfl _ _ ys.toArray rfl rfl HX.out.1 HX.out.2.1 (all_oneCell_toArray HX.out.2.2.1.2) ?_)
    | fail)
  refine leaves_cons (f := 208) (args := #[.pointer (some ⟨w.heap.size + 1, 0, none⟩), .pointer (some ⟨w.heap.size + 1 + 1, 0, none⟩)]) (by simp) (by simp [go_sem]) ?_
  refine (guardBC_idle _ _ _).mono ?_
  rintro e u' w'' ⟨rfl, rfl, rfl⟩
  simp [Leaves, settle]
  have hst2 : w4.there (w.heap.size + 1) 0 ys.length := by rw [HX.out.2.2.1.1]; exact HX.out.2.2.2.2.2.2.2
  have r1 := World.rangeAt_setCells_same w4 (w.heap.size + 1) 0 ys hst2
  have r2 : ((w4.setCells (w.heap.size + 1) 0 ys).setCell ⟨w.heap.size + 1 + 1, 0, none⟩ (.int .i64 cd)).rangeAt (w.heap.size + 1) 0 ys := range_keep_set r1 (by omega)
  have c4 : ((w4.setCells (w.heap.size + 1) 0 ys).setCell ⟨w.heap.size + 1 + 1, 0, none⟩ (.int .i64 cd)).cell? ⟨w.heap.size + 1 + 1, 0, none⟩ = some (.int .i64 cd) := World.cell?_setCell_same _ _ _ c3
  refine ⟨_, results_mid_c rfl _ _ (w.heap.size + 1) 0 ys _ rfl r2 Tryz.underlying54 rfl (by rw [HX.out.2.2.1.1]; exact infoCe) (w.heap.size + 1 + 1) _ rfl (load_errno c4), ⟨ys, cd, HX.out.2.2.2.1, rfl, ?_⟩⟩
  refine below_upd (below_upd ((Upd.below HX.out.2.2.2.2.2.1).trans (HX.out.2.2.2.2.1.mono HX.out.2.2.2.2.2.1.size)) (upd_row w4 (w.heap.size + 1) 0 ys) (Nat.le_refl _) (fun k e => by omega)) (upd_setCell _ (w.heap.size + 1 + 1) 0 _) (Nat.le_refl _) (fun k e => by omega)
theorem guardCN_idle (p q : Value) (w : World) :
    CallsD Tryz.prog 174 #[p, q] .returning w fun e u' w' => e = .returned (.tuple #[]) ∧ u' = .returning ∧ w' = w := by
  refine callsD_of_wpS Tryz.func174 rfl fun c₀ cs hu => ?_
  apply wpS_seq
  apply wpS_region
  simp [wpOpsS, go_sem, recoverD, hu, Tryz.ntmps174, Exit.thenS]
  refine wpS_cond (t := false) (by simp [Act.eval, Array.replicate]) ?_
  simp only [Bool.false_eq_true, if_false]
  refine wpS_of_wp (wp_skip ?_)
  cases c₀
  simp_all [bodyPostS, results, Tryz.results174]
set_option maxRecDepth 100000 in
set_option maxHeartbeats 1000000 in
theorem guardCN {w : World} (xs : List Value) (hxs : (Tryz.prog.info? 54).map (·.size) = some xs.length) (ff : Nat) (cc : Array Value) (ent : ∀ args w, (callFunc ff args).run Tryz.prog w = .ok (.enter ff args) w)
    (n cd : Int) (hf : ∀ W, Below w.heap.size w W → Calls Tryz.prog ff (#[.agg xs.toArray] ++ cc) W (NumPost W n cd)) :
    Calls Tryz.prog 132 #[.func (.func ff) #[] cc, .agg xs.toArray] w (NumPost w n cd) := by
  have hmf : ∀ (fn : Fn) (first cap : Array Value) (w : World), (Instr.makeFunc fn first cap).run Tryz.prog w = .ok (.func fn first cap) w := fun _ _ _ _ => rfl
  have HF := Lib.hid (And.intro hf hxs)
  clear hf hxs
  have hr := range_of_block (heap_alloc_last w (.cells xs.toArray 54) rfl)
  go_enter_defers Tryz.func132, Tryz.ntmps132
  go_wp2_with (first
    | (refine wpList_load_mid rfl _ _ rfl _ _ rfl _ _ (World.rangeAt_alloc (World.rangeAt_alloc hr _) _) Tryz.underlying54 rfl HF.out.2 ?_)
    | fail)
  obtain ⟨h1, h2, h3, h4, h5⟩ := three_new w (.cells xs.toArray 54) (.cells #[.int .i64 0] 3) (.cells #[.int .i64 0] 40)
  clear hr
  generalize ((w.alloc (.cells xs.toArray 54)).alloc (.cells #[.int .i64 0] 3)).alloc (.cells #[.int .i64 0] 40) = w3 at *
  refine (HF.out.1 w3 (Upd.below h5)).mono ?_
  rintro e w4 ⟨rfl, hb4⟩
  have g2 := (hb4.block _ (lt_of_block h2)).trans h2
  have g3 := (hb4.block _ (lt_of_block h3)).trans h3
  have c2 : w4.cell? ⟨w.heap.size + 1, 0, none⟩ = some (.int .i64 0) := cell_of_block g2 0
  have z2 := frozen_of_block g2 0
  have c3 : w4.cell? ⟨w.heap.size + 1 + 1, 0, none⟩ = some (.int .i64 0) := cell_of_block g3 0
  have z3 := frozen_of_block g3 0
  have HX := Lib.hid (And.intro hb4 h5)
  clear hb4 h5 h4 h1 h2 h3 g2 g3
  go_wp2
  refine leaves_cons (f := 174) (args := #[.pointer (some ⟨w.heap.size + 1, 0, none⟩), .pointer (some ⟨w.heap.size + 1 + 1, 0, none⟩)]) (by simp) (by simp [go_sem]) ?_
  refine (guardCN_idle _ _ _).mono ?_
  rintro e u' w'' ⟨rfl, rfl, rfl⟩
  have d1 : ((w4.setCell ⟨w.heap.size + 1, 0, none⟩ (.int .i64 n)).setCell ⟨w.heap.size + 1 + 1, 0, none⟩ (.int .i64 cd)).cell? ⟨w.heap.size + 1, 0, none⟩ = some (.int .i64 n) := cell_keep_set (World.cell?_setCell_same _ _ _ c2) (by omega)
  have d2 : ((w4.setCell ⟨w.heap.size + 1, 0, none⟩ (.int .i64 n)).setCell ⟨w.heap.size + 1 + 1, 0, none⟩ (.int .i64 cd)).cell? ⟨w.heap.size + 1 + 1, 0, none⟩ = some (.int .i64 cd) := World.cell?_setCell_same _ _ _ (cell_keep_set c3 (by omega))
  have d3 : Below w.heap.size w ((w4.setCell ⟨w.heap.size + 1, 0, none⟩ (.int .i64 n)).setCell ⟨w.heap.size + 1 + 1, 0, none⟩ (.int .i64 cd)) :=
    below_upd (below_upd ((Upd.below HX.out.2).trans (HX.out.1.mono HX.out.2.size)) (upd_setCell w4 (w.heap.size + 1) 0 _) (Nat.le_refl _) (fun k e => by omega)) (upd_setCell _ (w.heap.size + 1 + 1) 0 _) (Nat.le_refl _) (fun k e => by omega)
  generalize (w4.setCell ⟨w.heap.size + 1, 0, none⟩ (.int .i64 n)).setCell ⟨w.heap.size + 1 + 1, 0, none⟩ (.int .i64 cd) = w5 at *
  simp [Leaves, settle, results, Tryz.results132, load_int d1, load_errno d2, asAddr, Sem.run_bind, Result.andThen]
  exact ⟨rfl, d3⟩
end Go.Proofs.YtnadilfobmgebaaGreatDoor
