/- A log: number, New, Len. A cache's numbers and devices; its logs (logs.Open). logs.Open of a cache. A journal: Cover of all that was added (DeleteFunc lets nothing stay). A cache's ledger, journal and slots, call by call; load of no entries. -/
import Derived.Test.YtnadilfobmgebaaGreatDoorG15
import Derived.Test.YtnadilfobmgebaaGreatDoorG10
import Derived.Test.YtnadilfobmgebaaGreatDoorG04
import Derived.Lib.SliceRun
namespace Go.Proofs.YtnadilfobmgebaaGreatDoor
open Go Go.RowKit
structure LogF (w : World) (l b base n fi : Nat) : Prop where
  str : w.heap[l]? = some (.cells #[.pointer (some ⟨b, 0, none⟩), .int .i64 (base : Int), .int .i64 (n : Int), .func (.func 107) #[] #[], .func (.func 108) #[] #[], .func (.func fi) #[] #[]] 165 (0, 0))
theorem LogF.lt {w : World} {l b base n fi : Nat} (h : LogF w l b base n fi) : l < w.heap.size := lt_of_block h.str
theorem LogF.keep {w w' : World} {l b base n fi : Nat} (h : LogF w l b base n fi) {S : Nat → Prop} (hu : Upd S w w') (hs : ¬ S l) : LogF w' l b base n fi := ⟨(hu.block l h.lt hs).trans h.str⟩
theorem LogF.below {w w' : World} {l b base n fi : Nat} (h : LogF w l b base n fi) (hb : Below w.heap.size w w') : LogF w' l b base n fi := h.keep (Upd.of_below (S := fun _ => False) hb) (fun h => h)
theorem LogF.c {w : World} {l b base n fi : Nat} (h : LogF w l b base n fi) : w.cell? ⟨l, 0, none⟩ = some (.pointer (some ⟨b, 0, none⟩)) ∧ w.cell? ⟨l, 1, none⟩ = some (.int .i64 (base : Int)) ∧ w.cell? ⟨l, 2, none⟩ = some (.int .i64 (n : Int)) ∧
    w.cell? ⟨l, 3, none⟩ = some (.func (.func 107) #[] #[]) ∧ w.cell? ⟨l, 4, none⟩ = some (.func (.func 108) #[] #[]) ∧ w.cell? ⟨l, 5, none⟩ = some (.func (.func fi) #[] #[]) :=
  ⟨cell_of_block h.str 0, cell_of_block h.str 1, cell_of_block h.str 2, cell_of_block h.str 3, cell_of_block h.str 4, cell_of_block h.str 5⟩
def TellsF (fi : Nat) : Prop := (∀ args w, (callFunc fi args).run Tryz.prog w = .ok (.enter fi args) w) ∧ ∀ (W : World) (a : Int) (xs : List Value), xs[0]? = some (.int .i64 a) → (Tryz.prog.info? 58).map (·.size) = some xs.length →
  Calls Tryz.prog fi #[.agg xs.toArray] W fun e W' => e = .returned (.int .i64 a) ∧ Below W.heap.size W W'
set_option maxRecDepth 100000 in
set_option maxHeartbeats 1000000 in
theorem numberF1 {w : World} {l g b base n fi : Nat} (h : LogF w l b base n fi) (hg : w.cell? ⟨g, 0, none⟩ = some (.pointer (some ⟨l, 0, none⟩))) (hfi : TellsF fi) (a : Int) (xs : List Value) (hx0 : xs[0]? = some (.int .i64 a)) (hx : (Tryz.prog.info? 58).map (·.size) = some xs.length) :
    Calls Tryz.prog 136 #[.agg xs.toArray, .pointer (some ⟨g, 0, none⟩)] w (NumPost w a 0) := by
  have ent := hfi.1
  have H := Lib.hid (And.intro hx (And.intro hfi.2 hx0))
  have hua : Upd (fun _ => False) w (w.alloc (.cells xs.toArray 58)) := (Upd.refl _ _).alloc _
  have hr := range_of_block (heap_alloc_last w (.cells xs.toArray 58) rfl)
  have c0 := hua.cellv hg (fun h => h)
  have c5 := hua.cellv h.c.2.2.2.2.2 (fun h => h)
  have HU := Lib.hid hua
  clear hx hfi h hg hua hx0
  go_enter Tryz.func136, Tryz.ntmps136
  go_wp2_with fail
  generalize w.alloc (.cells xs.toArray 58) = w1 at *
  obtain ⟨m, hm⟩ : ∃ m, m = w.heap.size := ⟨_, rfl⟩
  rw [← hm]
  rw [← hm] at hr
  have HM := Lib.hid hm
  clear hm
  refine wp_region_held_drew (S := fun W => W.cell? ⟨g, 0, none⟩ = some (.pointer (some ⟨l, 0, none⟩)) ∧ W.cell? ⟨l, 5, none⟩ = some (.func (.func fi) #[] #[]) ∧ W.rangeAt m 0 xs) (by kernel_rfl) (⟨by rw [World.cell?_drew]; exact c0, by rw [World.cell?_drew]; exact c5, by rw [World.rangeAt_drew]; exact hr⟩) (fun hHeld => ?_)
  refine wpAnyH_take (i := 0) (v := ?_) rfl (by kernel_rfl) (by kernel_rfl) (by kernel_rfl) (fun _ _ _ h => h) (Or.inl ⟨by rfl, ?_⟩) hHeld ?_
  rotate_left
  · intro W hSw; (try dsimp only at hSw); (try go_split_ands); go_simp; (try with_reducible rfl)
  simp only [List.getElem_toArray, List.getElem_cons_zero, Act.put, List.setIfInBounds_toArray, List.set_cons_zero, List.set_cons_succ]
  refine wpAnyH_take (i := 1) (v := ?_) rfl (by kernel_rfl) (by kernel_rfl) (by kernel_rfl) (fun _ _ _ h => h) (Or.inl ⟨by rfl, ?_⟩) hHeld ?_
  rotate_left
  · intro W hSw; (try dsimp only at hSw); (try go_split_ands); go_simp; (try with_reducible rfl)
  simp only [List.getElem_toArray, List.getElem_cons_succ, List.getElem_cons_zero, Act.put, List.setIfInBounds_toArray, List.set_cons_zero, List.set_cons_succ]
  refine wpAnyH_take (i := 2) (v := ?_) rfl (by kernel_rfl) (by kernel_rfl) (by kernel_rfl) (fun _ _ _ h => h) (Or.inl ⟨by rfl, ?_⟩) hHeld ?_
  rotate_left
  · intro W hSw; (try dsimp only at hSw); (try go_split_ands); go_simp; (try with_reducible rfl)
  simp only [List.getElem_toArray, List.getElem_cons_succ, List.getElem_cons_zero, Act.put, List.setIfInBounds_toArray, List.set_cons_zero, List.set_cons_succ]
  refine wpAnyH_take (i := 3) (v := ?_) rfl (by kernel_rfl) (by kernel_rfl) (by kernel_rfl) (fun _ _ _ h => h) (Or.inl ⟨by rfl, ?_⟩) hHeld ?_
  rotate_left
  · intro W hSw; (try dsimp only at hSw); (try go_split_ands); go_simp; (try with_reducible rfl)
  simp only [List.getElem_toArray, List.getElem_cons_succ, List.getElem_cons_zero, Act.put, List.setIfInBounds_toArray, List.set_cons_zero, List.set_cons_succ]
  refine' wpAnyH_take (i := 4) rfl (by kernel_rfl) (by kernel_rfl) (by kernel_rfl) (fun _ _ _ h => h) (yieldsIf_load_mid (by rfl) _ _ rfl _ _ rfl _ _ (fun w h => h.2.2) Tryz.underlying58 rfl H.out.1) hHeld _
  simp only [List.getElem_toArray, List.getElem_cons_succ, List.getElem_cons_zero, Act.put, List.setIfInBounds_toArray, List.set_cons_zero, List.set_cons_succ]
  refine wpAnyH_ready (rs := [5]) (by kernel_rfl) (by simp) ?_
  refine AllReadyH.cons rfl (fun K hK => ?_) AllReadyH.nil
  go_simp
  refine (H.out.2.1 _ a xs H.out.2.2 H.out.1).mono ?_
  rintro e w2 ⟨rfl, hb2⟩
  refine hK.out _ _ (⟨(Upd.of_below (S := fun _ => False) hb2).cellv hHeld.1 (fun h => h), (Upd.of_below (S := fun _ => False) hb2).cellv hHeld.2.1 (fun h => h), Below.range hb2 hHeld.2.2⟩) (fun hHeld2 => ?_)
  clear hK K
  refine wpAnyH_ready (rs := [6]) (by kernel_rfl) (by simp) ?_
  refine AllReadyH.cons rfl (fun K hK => ?_) AllReadyH.nil
  go_simp
  refine hK.out _ _ (hHeld2) (fun _ => ?_)
  clear hK K
  refine wpAnyH_ready (rs := [7]) (by kernel_rfl) (by simp) ?_
  refine AllReadyH.cons rfl (fun K hK => ?_) AllReadyH.nil
  go_simp
  refine hK.out _ _ (hHeld2) (fun _ => ?_)
  clear hK K
  refine wpAnyH_done (by kernel_rfl) ?_ _
  have HB := Lib.hid (bundrew' hb2)
  have hlt := HU.out.size
  clear hb2 hHeld hHeld2 c0 c5 hr
  go_wp2
  go_ret2
  exact ⟨rfl, (Upd.below HU.out).trans (HB.out.mono HU.out.size)⟩
set_option maxRecDepth 100000 in
set_option maxHeartbeats 1000000 in
theorem numberF {w : World} {l b base n fi : Nat} (h : LogF w l b base n fi) (hfi : TellsF fi) (a : Int) (xs : List Value) (hx0 : xs[0]? = some (.int .i64 a)) (hx : (Tryz.prog.info? 58).map (·.size) = some xs.length) :
    Calls Tryz.prog 76 #[.pointer (some ⟨l, 0, none⟩), .agg xs.toArray] w (NumPost w a 0) := by
  have hmf : ∀ (fn : Fn) (first cap : Array Value) (w : World), (Instr.makeFunc fn first cap).run Tryz.prog w = .ok (.func fn first cap) w := fun _ _ _ _ => rfl
  have hu : Upd (fun _ => False) w ((w.alloc (.cells #[.pointer (some ⟨l, 0, none⟩)] 26)).alloc (.cells xs.toArray 58)) := ((Upd.refl _ w).alloc _).alloc _
  have c0 : ((w.alloc (.cells #[.pointer (some ⟨l, 0, none⟩)] 26)).alloc (.cells xs.toArray 58)).cell? ⟨w.heap.size, 0, none⟩ = some (.pointer (some ⟨l, 0, none⟩)) := cell_keep_alloc (cell_of_block (heap_alloc_last w _ rfl) 0) _
  have hr : ((w.alloc (.cells #[.pointer (some ⟨l, 0, none⟩)] 26)).alloc (.cells xs.toArray 58)).rangeAt (w.heap.size + 1) 0 xs := range_of_block (heap_alloc_last _ _ (by simp))
  have H := Lib.hid (And.intro (h.keep hu (fun h => h)) (And.intro hfi (And.intro hx0 (And.intro hx hu))))
  clear h hfi hx0 hx hu
  go_enter Tryz.func76, Tryz.ntmps76
  go_wp2_with (first
    | (refine wpList_load_mid rfl _ _ rfl _ _ rfl _ _ hr Tryz.underlying58 rfl H.out.2.2.2.1 ?_)
    | fail)
  generalize (w.alloc (.cells #[.pointer (some ⟨l, 0, none⟩)] 26)).alloc (.cells xs.toArray 58) = w2 at *
  refine (guardFN xs H.out.2.2.2.1 136 #[.pointer (some ⟨w.heap.size, 0, none⟩)] (fun _ _ => rfl) a 0 ?_).mono ?_
  · intro W hW
    exact numberF1 (H.out.1.below hW) ((Upd.of_below (S := fun _ => False) hW).cellv c0 (fun h => h)) H.out.2.1 a xs H.out.2.2.1 H.out.2.2.2.1
  · rintro e w3 ⟨rfl, hb3⟩
    have HB := Lib.hid hb3
    clear hb3 c0 hr
    go_wp2
    go_ret2
    exact ⟨rfl, (Upd.below H.out.2.2.2.2).trans (HB.out.mono H.out.2.2.2.2.size)⟩
theorem newF_ok {S : Nat → Prop} {w : World} {b : Nat} {F : List Bk} {O : List (Nat × Bk)} {P : List Int} (h : Dv S w b F O P) (base n : Nat) (hn : 1 ≤ n) (hbn : base + n ≤ F.length) (fi : Nat) :
    Calls Tryz.prog 106 #[.pointer (some ⟨b, 0, none⟩), .int .i64 (base : Int), .int .i64 (n : Int), .func (.func 107) #[] #[], .func (.func 108) #[] #[], .func (.func fi) #[] #[]] w
      fun e w' => e = .returned (.tuple #[.pointer (some ⟨w.heap.size, 0, none⟩), .int .i64 0]) ∧ LogF w' w.heap.size b base n fi ∧ Below w.heap.size w w' := by
  have hfl := h.good.fl
  have e1 := eql_fn 161 _ _ _ Tryz.underlying161
  have e2 := eql_fn 162 _ _ _ Tryz.underlying162
  have e3 := eql_fn 163 _ _ _ Tryz.underlying163
  have q1 : decide ((base : Int) < 0) = false := by simp
  have q2 : decide ((n : Int) < 1) = false := by simp; omega
  have q3 : decide ((F.length : Int) < (base : Int)) = false := by simp; omega
  have q4 : decide ((F.length : Int) - (base : Int) < (n : Int)) = false := by simp; omega
  have H := Lib.hid h
  clear h
  go_enter Tryz.func106, Tryz.ntmps106
  go_wp2_with (first | (go_at_call 27; refine (dsize H.out).mono ?_; rintro e w' ⟨rfl, rfl⟩))
  go_ret2
  exact ⟨rfl, ⟨heap_alloc_last _ _ rfl⟩, (Below.refl _ _).alloc (Nat.le_refl _) _⟩
section
variable {own own' : Nat → Nat} {w w' : World} {c : Nat} {n : CaN} {p : CaP} {a : CaS}
theorem cdevs (h : CaAt own w c n p a) : Calls Tryz.prog 47 #[ptr c] w fun e w' => e = .returned (.tuple #[ptr p.ssd, ptr p.back]) ∧ Upd (fun _ => False) w w' := by
  obtain ⟨c14, c15, -⟩ := h.cells
  clear h
  go_enter Tryz.func47, Tryz.ntmps47
  go_wp2
  go_quiet (fail)
  have hu : Upd (fun _ => False) w (w.drewN nq) := (Upd.refl _ w).drewN nq
  generalize w.drewN nq = w2 at *
  go_wp2
  go_ret2
  exact ⟨rfl, hu⟩
theorem C_one (n : CaN) : ∀ v ∈ n.C, v.oneCell' = true := by
  intro v hv
  simp only [CaN.C, List.mem_cons, List.not_mem_nil, or_false] at hv
  rcases hv with rfl | rfl | rfl | rfl | rfl | rfl | rfl <;> rfl
theorem lay_one (sl jo pa lo : Nat) : ∀ v ∈ layC sl jo pa lo, v.oneCell' = true := by
  intro v hv
  simp only [List.mem_cons, List.not_mem_nil, or_false] at hv
  rcases hv with rfl | rfl | rfl | rfl | rfl | rfl | rfl <;> rfl
set_option maxRecDepth 100000 in
theorem csuper (h : CaAt own w c n p a) : Calls Tryz.prog 93 #[ptr c] w fun e w' => e = .returned (.agg n.C.toArray) ∧ Below w.heap.size w w' := by
  obtain ⟨U, hU⟩ : ∃ U, U = n.C := ⟨_, rfl⟩
  have hr : w.rangeAt c 0 U := fun j v hv => by
    have := range_of_block h.str j v (by rw [caC, List.getElem?_append_left (by have := (List.getElem?_eq_some_iff.1 hv).1; rw [hU] at this; exact this), ← hU]; exact hv)
    exact this
  have hU7 : U.length = 7 := by rw [hU]; rfl
  have hs : (Tryz.prog.info? 34).map (·.size) = some U.length := by rw [hU7]; exact infoSup
  have h1 : ∀ v ∈ U, v.oneCell' = true := by rw [hU]; exact C_one n
  have hc := World.rangeAt_alloc hr (.cells U.toArray 34)
  rw [← hU]
  have H := Lib.hid (And.intro hs (And.intro h1 hU7))
  clear h hU hs h1 hU7
  go_enter Tryz.func93, Tryz.ntmps93
  go_wp2_with (first
    | (refine wpList_load_mid rfl _ _ rfl _ _ rfl _ _ (World.rangeAt_alloc hr _) Tryz.underlying34 rfl H.out.1 ?_)
    | (refine wpList_store_new rfl _ _ _ rfl _ _ _ rfl rfl (by rw [H.out.2.2]; rfl) H.out.1 H.out.2.1 ?_)
    | fail)
  refine bodyPost_ret (results_mid1 rfl _ _ w.heap.size 0 U _ rfl (range_of_block (heap_alloc_last w _ rfl)) Tryz.underlying34 rfl H.out.1) rfl ⟨rfl, (Below.refl _ w).alloc (Nat.le_refl _) _⟩
set_option maxRecDepth 100000 in
theorem clayout (h : CaAt own w c n p a) : Calls Tryz.prog 100 #[ptr c] w fun e w' => e = .returned (.agg (layC n.sl n.jo n.pa n.lo).toArray) ∧ Below w.heap.size w w' := by
  obtain ⟨U, hU⟩ : ∃ U, U = layC n.sl n.jo n.pa n.lo := ⟨_, rfl⟩
  have hU7 : U.length = 7 := by rw [hU]; rfl
  have hr : w.rangeAt c 7 U := fun j v hv => by
    have := range_of_block h.str (7 + j) v (by
      rw [caC, List.getElem?_append_right (by show (7 : Nat) ≤ 7 + j; omega), show 7 + j - n.C.length = j by show 7 + j - 7 = j; omega, List.getElem?_append_left (by have := (List.getElem?_eq_some_iff.1 hv).1; rw [hU] at this; exact this), ← hU]; exact hv)
    rw [Nat.zero_add] at this
    exact this
  have hs : (Tryz.prog.info? 82).map (·.size) = some U.length := by rw [hU7]; exact infoLay
  have h1 : ∀ v ∈ U, v.oneCell' = true := by rw [hU]; exact lay_one _ _ _ _
  rw [← hU]
  have H := Lib.hid (And.intro hs (And.intro h1 hU7))
  clear h hU hs h1 hU7
  go_enter Tryz.func100, Tryz.ntmps100
  go_wp2_with (first
    | (refine wpList_load_mid rfl _ _ rfl _ _ rfl _ _ (World.rangeAt_alloc hr _) Tryz.underlying82 rfl H.out.1 ?_)
    | (refine wpList_store_new rfl _ _ _ rfl _ _ _ rfl rfl (by rw [H.out.2.2]; rfl) H.out.1 H.out.2.1 ?_)
    | fail)
  refine bodyPost_ret (results_mid1 rfl _ _ w.heap.size 0 U _ rfl (range_of_block (heap_alloc_last w _ rfl)) Tryz.underlying82 rfl H.out.1) rfl ⟨rfl, (Below.refl _ w).alloc (Nat.le_refl _) _⟩
end
def OpOut (w : World) (n : CaN) (d : Nat) (e : Ending) (w' : World) : Prop :=
  ∃ li lc lf, e = .returned (.tuple #[.agg #[ptr li, ptr lc, ptr lf], .int .i64 0]) ∧ LogI w' li d (1 + 2 * n.pa + n.jo) n.lo 101 ∧ LogC w' lc d (1 + 2 * n.pa + n.jo + n.lo) n.lo 105 ∧
    LogF w' lf d (1 + 2 * n.pa + n.jo + n.lo + n.lo) n.lo 109 ∧ (w.heap.size ≤ li ∧ w.heap.size ≤ lc ∧ w.heap.size ≤ lf) ∧ Below w.heap.size w w'
theorem field_lo (n : CaN) (w : World) : (Instr.field 34 (.agg n.C.toArray) 5).run Tryz.prog w = .ok (.int .i64 (n.lo : Int)) w := by kernel_rfl
section
variable {own own' : Nat → Nat} {w w' : World} {c : Nat} {n : CaN} {p : CaP} {a : CaS}
set_option maxRecDepth 100000 in
set_option maxHeartbeats 1000000 in
theorem lopen (h : CaAt own w c n p a) : Calls Tryz.prog 54 #[ptr c] w (OpOut w n p.ssd) := by
  obtain ⟨V, hV⟩ : ∃ V, V = layC n.sl n.jo n.pa n.lo := ⟨_, rfl⟩
  obtain ⟨w1, hw1⟩ : ∃ w1, w1 = w.alloc (.cells #[.pointer none, .pointer none, .pointer none] 28) := ⟨_, rfl⟩
  have hu1 : Upd (fun _ => False) w w1 := by rw [hw1]; exact (Upd.refl _ w).alloc _
  have h1 := h.new hu1
  have hg1 : w1.heap[w.heap.size]? = some (.cells #[.pointer none, .pointer none, .pointer none] 28 (0, 0)) := by rw [hw1]; exact heap_alloc_last w _ rfl
  have H1 := Lib.hid (And.intro h1 (And.intro hu1 (And.intro hg1 hV)))
  have hC := Lib.hid (cdevs h1)
  have HW1 := Lib.hid hw1
  have HO := Lib.hid h.ok
  clear h h1 hu1 hw1 hV hg1
  go_enter Tryz.func54, Tryz.ntmps54
  go_wp2_with fail
  rw [← HW1.out]
  refine hC.out.mono ?_
  rintro e w2 ⟨rfl, hu2⟩
  have h2 := H1.out.1.new hu2
  have H2 := Lib.hid (And.intro h2 hu2)
  have hL := clayout h2
  rw [← H1.out.2.2.2] at hL
  have HL := Lib.hid hL
  clear h2 hu2 hL
  go_wp2_with fail
  refine HL.out.mono ?_
  rintro e w3 ⟨rfl, hb3⟩
  have hu3 : Upd (fun _ => False) w2 w3 := Upd.of_below hb3
  have h3 := H2.out.1.new hu3
  have H3 := Lib.hid (And.intro h3 hu3)
  have HS := Lib.hid (csuper h3)
  clear h3 hu3 hb3
  go_wp2_with fail
  refine HS.out.mono ?_
  rintro e w4 ⟨rfl, hb4⟩
  have hu4 : Upd (fun _ => False) w3 w4 := Upd.of_below hb4
  clear hb4
  obtain ⟨w5, hw5⟩ : ∃ w5, w5 = w4.alloc (.cells V.toArray 82) := ⟨_, rfl⟩
  have hu5 : Upd (fun _ => False) w4 w5 := by rw [hw5]; exact (Upd.refl _ w4).alloc _
  have hg5 : w5.heap[w4.heap.size]? = some (.cells V.toArray 82) := by rw [hw5]; exact heap_alloc_last w4 _ rfl
  have hVl : V.length = 7 := by rw [H1.out.2.2.2]; rfl
  have hV1 : ∀ v ∈ V, v.oneCell' = true := by rw [H1.out.2.2.2]; exact lay_one _ _ _ _
  have hsV : Hid ((Tryz.prog.info? 82).map (·.size) = some V.length) := by show _ = _; rw [hVl]; exact infoLay
  have h5 := (H3.out.1.new hu4).new hu5
  have U5 := (((H1.out.2.1.trans H2.out.2).trans H3.out.2).trans hu4).trans hu5
  have g15 := (((H2.out.2.trans H3.out.2).trans hu4).trans hu5).blockv H1.out.2.2.1
  have H5 := Lib.hid (And.intro h5 (And.intro U5 (And.intro hg5 (And.intro hVl (And.intro hV1 g15)))))
  have HW5 := Lib.hid hw5
  have hz : n.size ≤ 4096 := HO.out.z
  have hl1 := HO.out.l1
  have hdl := h5.fl
  have HN := Lib.hid (newI_ok h5.ssd (1 + 2 * n.pa + n.jo) n.lo hl1 (by rw [hdl]; unfold CaN.size; omega) 101)
  have hfd := field_lo n
  clear hu4 hu5 hg5 hVl hV1 h5 U5 g15 hw5 hdl
  go_upto_region 5 with (first
    | (refine wpList_store_new rfl _ _ _ rfl _ _ _ rfl rfl (by rw [H5.out.2.2.2.1]; rfl) hsV.out H5.out.2.2.2.2.1 ?_)
    | fail)
  rw [← HW5.out]
  clear hfd
  have hvc := cell_of_block H5.out.2.2.1
  rw [H1.out.2.2.2] at hvc
  have v2 : w5.cell? ⟨w4.heap.size, 2, none⟩ = some (.int .i64 (1 + 2 * (n.pa : Int) + (n.jo : Int))) := hvc 2
  have e1 : (((1 + 2 * n.pa + n.jo : Nat)) : Int) = 1 + 2 * (n.pa : Int) + (n.jo : Int) := by simp
  rw [e1] at HN
  clear hvc e1
  go_wp2_with fail
  refine HN.out.mono ?_
  rintro e w6 ⟨rfl, hl6, hb6⟩
  have hu6 : Upd (fun _ => False) w5 w6 := Upd.of_below hb6
  have h6 := H5.out.1.new hu6
  have hdl := h6.fl
  have HN := Lib.hid (newC_ok h6.ssd (1 + 2 * n.pa + n.jo + n.lo) n.lo hl1 (by rw [hdl]; unfold CaN.size; omega) 105)
  have H6 := Lib.hid (And.intro h6 (And.intro hl6 hu6))
  have hvc := cell_of_block (hu6.blockv H5.out.2.2.1)
  rw [H1.out.2.2.2] at hvc
  have v3 : w6.cell? ⟨w4.heap.size, 3, none⟩ = some (.int .i64 (1 + 2 * (n.pa : Int) + (n.jo : Int) + (n.lo : Int))) := hvc 3
  have e1 : (((1 + 2 * n.pa + n.jo + n.lo : Nat)) : Int) = 1 + 2 * (n.pa : Int) + (n.jo : Int) + (n.lo : Int) := by simp
  rw [e1] at HN
  clear hvc e1 h6 hl6 hb6 hu6 hdl v2
  go_wp2_with fail
  refine HN.out.mono ?_
  rintro e w7 ⟨rfl, hl7, hb7⟩
  have hu7 : Upd (fun _ => False) w6 w7 := Upd.of_below hb7
  have h7 := H6.out.1.new hu7
  have hdl := h7.fl
  have HN := Lib.hid (newF_ok h7.ssd (1 + 2 * n.pa + n.jo + n.lo + n.lo) n.lo hl1 (by rw [hdl]; unfold CaN.size; omega) 109)
  have H7 := Lib.hid (And.intro hl7 hu7)
  have hvc := cell_of_block ((H6.out.2.2.trans hu7).blockv H5.out.2.2.1)
  rw [H1.out.2.2.2] at hvc
  have v4 : w7.cell? ⟨w4.heap.size, 4, none⟩ = some (.int .i64 (1 + 2 * (n.pa : Int) + (n.jo : Int) + (n.lo : Int) + (n.lo : Int))) := hvc 4
  have e1 : (((1 + 2 * n.pa + n.jo + n.lo + n.lo : Nat)) : Int) = 1 + 2 * (n.pa : Int) + (n.jo : Int) + (n.lo : Int) + (n.lo : Int) := by simp
  rw [e1] at HN
  clear hvc e1 h7 hl7 hb7 hu7 hdl v3
  go_wp2_with fail
  refine HN.out.mono ?_
  rintro e w8 ⟨rfl, hl8, hb8⟩
  have hu8 : Upd (fun _ => False) w7 w8 := Upd.of_below hb8
  have g8 := ((H6.out.2.2.trans H7.out.2).trans hu8).blockv H5.out.2.2.2.2.2
  have c80 := cell_of_block g8 0
  have c81 := cell_of_block g8 1
  have c82 := cell_of_block g8 2
  have f8 := frozen_of_block g8
  have f80 := f8 0
  have f81 := f8 1
  have f82 := f8 2
  have H8 := Lib.hid (And.intro hl8 (And.intro hu8 g8))
  clear hl8 hb8 hu8 g8 f8 v4
  go_wp2
  obtain ⟨hl8, hu8, g8⟩ := H8.out
  have s0 := heap_setCell_same g8 0 (ptr w5.heap.size)
  have s1 := heap_setCell_same s0 1 (ptr w6.heap.size)
  have s2 := heap_setCell_same s1 2 (ptr w7.heap.size)
  have t1 := ((upd_setCell w8 w.heap.size 0 (ptr w5.heap.size)).trans (upd_setCell _ w.heap.size 1 (ptr w6.heap.size))).trans (upd_setCell _ w.heap.size 2 (ptr w7.heap.size))
  have z1 := H1.out.2.1.size
  have z5 := H5.out.2.1.size
  have z6 := H6.out.2.2.size
  have z7 := H7.out.2.size
  have hw : w.heap.size < w5.heap.size := lt_of_block H5.out.2.2.2.2.2
  have li := ((H6.out.2.1.keep H7.out.2 (fun h => h)).keep hu8 (fun h => h)).keep t1 (by omega)
  have lc := (H7.out.1.keep hu8 (fun h => h)).keep t1 (by omega)
  have lf := hl8.keep t1 (by omega)
  refine bodyPost_ret (results_mid2 rfl _ _ w.heap.size 0 [ptr w5.heap.size, ptr w6.heap.size, ptr w7.heap.size] _ rfl (range_of_block s2) Tryz.underlying28 rfl (by kernel_rfl)) rfl ⟨w5.heap.size, w6.heap.size, w7.heap.size, rfl, li, lc, lf, ⟨by omega, by omega, by omega⟩, ?_⟩
  exact Upd.below ((((H5.out.2.1.trans H6.out.2.2).trans H7.out.2).trans hu8).new t1 (fun i hi e => by omega))
end
theorem infoWz : (Tryz.prog.info? 279).map (fun i => (i.zero.map (fun z => (z.cells.size, z.cells.all (·.oneCell'))), i.size)) = some (some (65, true), 65) := by kernel_rfl
theorem infoWz_parts : ∃ i z, Tryz.prog.info? 279 = some i ∧ i.zero = some z ∧ z.cells.size = 65 ∧ z.cells.all (·.oneCell') = true ∧ i.size = 65 := by
  obtain ⟨i, hi, h⟩ := Option.map_eq_some_iff.1 infoWz
  simp only [Prod.mk.injEq] at h
  obtain ⟨h1, h2⟩ := h
  obtain ⟨z, hz, hs⟩ := Option.map_eq_some_iff.1 h1
  simp only [Prod.mk.injEq] at hs
  exact ⟨i, z, hi, hz, hs.1, hs.2, h2⟩
theorem run_clear_wt {w : World} {g off n cap : Nat} {cur : Array Value} (hg : w.heap[g]? = some (.cells cur 279 (0, 0))) (hs : off + n * 65 ≤ cur.size) (hn : 0 < n) :
    ∃ w', (∀ ty, (Builtin.clear_ #[274] ty #[.slice (some ⟨g, off, none⟩) n cap]).run Tryz.prog w = .ok (.tuple #[]) w') ∧ Upd (fun j => j = g) w w' ∧
      ∃ cur', w'.heap[g]? = some (.cells cur' 279 (0, 0)) ∧ cur'.size = cur.size := by
  obtain ⟨i, z, hi, hz, hzs, hz1, hsz⟩ := infoWz_parts
  have hlen : (Builtin.zeroCells z.cells n).toList.length = n * 65 := by simp [Builtin.zeroCells, hzs]
  have h1 : ∀ v ∈ (Builtin.zeroCells z.cells n).toList, v.oneCell' = true := by
    intro v hv
    simp only [Builtin.zeroCells, Array.toList_map, List.mem_map] at hv
    obtain ⟨k, hk, rfl⟩ := hv
    have : k % z.cells.size < z.cells.size := Nat.mod_lt _ (by omega)
    rw [getElem!_pos z.cells (k % z.cells.size) this]
    exact Array.all_eq_true.1 hz1 _ this
  have hst := run_storeCells_cells (P := Tryz.prog) g off (Builtin.zeroCells z.cells n).toList 0 w
    (fun j hj => by rw [hlen] at hj; rw [cell_of_block hg, Nat.add_zero, Array.getElem?_eq_getElem (by omega)]; rfl) (fun j hj => frozen_of_block hg _) h1
  simp only [Nat.add_zero] at hst
  obtain ⟨cur', h2, h3, -⟩ := heap_setCells_same (Builtin.zeroCells z.cells n).toList off w g cur _ _ hg
  have hzr : ∀ w, (zeroValue 279).run Tryz.prog w = .ok z w := fun w => by simp [zeroValue, typeInfo, hi, hz]
  refine ⟨_, fun ty => ?_, upd_setCells _ w g off _ rfl, cur', h2, h3⟩
  obtain ⟨m, rfl⟩ : ∃ m, n = m + 1 := ⟨n - 1, by omega⟩
  simp [Builtin.clear_, run_underlying Tryz.underlying274, hzr, hst]
abbrev covV (q : Nat) : Value := .func (.func 199) #[] #[.pointer (some ⟨q, 0, none⟩)]
set_option maxRecDepth 100000 in
theorem jidx {w : World} {next : Nat} {vw : Value} {W : List (Nat × Bk)} (h : WtAt w vw next W) (q : Nat) (s : Int) (hq : w.cell? ⟨q, 0, none⟩ = some (.int .i64 s)) (hs : s = (next : Int) - 1) :
    Calls Tryz.prog 229 #[vw, covV q] w fun e w' => e = .returned (.int .i64 (if W = [] then -1 else 0)) ∧ Below w.heap.size w w' := by
  by_cases h0 : W = []
  · subst h0
    rw [if_pos rfl]
    obtain ⟨ao, c, rfl⟩ := h.ws.rd.nil_iff
    clear h
    go_enter Tryz.func229, Tryz.ntmps229
    go_wp2
    go_loop [8] (fun i => i = .int .i64 0) (fun _ => 0)
    case atStart => rfl
    case round =>
      subst hrel
      go_wp2
      go_ret
      exact ⟨rfl, Below.refl _ _⟩
  · rw [if_neg h0]
    have hl : 0 < W.length := by cases W with | nil => exact absurd rfl h0 | cons a l => simp
    obtain ⟨g, off, cap, rfl, hgl, hcap, hr⟩ := h.range hl
    have hlt := h.lt W[0] (List.getElem_mem hl)
    have h64 := h.w64 W[0] (List.getElem_mem hl)
    have hwl := h.wl
    have hmx := h.mx
    rw [Nat.zero_mul, Nat.add_zero] at hr
    have b1 : (0 : Int) < (W.length : Int) := by omega
    have hc := jcov1 w q s hq W[0].1 W[0].2 (by omega)
    generalize W[0].1 = x at *
    generalize W[0].2 = y at *
    have HC := Lib.hid hc
    clear h h0 hc hs hq hlt
    generalize W.length = m at *
    go_enter Tryz.func229, Tryz.ntmps229
    go_wp2
    go_loop [8] (fun i => i = .int .i64 0) (fun _ => 0)
    case atStart => rfl
    case round =>
      subst hrel
      go_wp2_with (first
        | refine wpList_load_mid rfl _ _ rfl _ _ rfl _ _ hr Tryz.underlying279 rfl (sizeWt _ _ h64) ?_
        | fail)
      refine HC.out.mono ?_
      rintro e w' ⟨rfl, hb⟩
      go_wp2
      go_ret
      exact ⟨rfl, hb⟩
def DelPost (w : World) (vw : Value) (e : Ending) (w' : World) : Prop := ∃ v', e = .returned v' ∧ Sl w' 279 65 v' 0 [] ∧ v'.ownBlock = vw.ownBlock ∧ Upd (fun k => vw.ownBlock = some k) w w'
set_option maxRecDepth 100000 in
set_option maxHeartbeats 1000000 in
theorem jdel {w : World} {next : Nat} {vw : Value} {W : List (Nat × Bk)} (h : WtAt w vw next W) (q : Nat) (s : Int) (hq : w.cell? ⟨q, 0, none⟩ = some (.int .i64 s)) (hqn : vw.ownBlock ≠ some q) (hs : s = (next : Int) - 1) :
    Calls Tryz.prog 198 #[vw, covV q] w (DelPost w vw) := by
  have HI := Lib.hid (jidx h q s hq hs)
  by_cases h0 : W = []
  · subst h0
    rw [if_pos rfl] at HI
    have HH := Lib.hid h
    clear h hq hs hqn
    go_enter Tryz.func198, Tryz.ntmps198
    go_wp2_with fail
    refine HI.out.mono ?_
    rintro e w' ⟨rfl, hb⟩
    go_wp2
    go_ret
    exact ⟨vw, rfl, (HH.out.new (Upd.of_below hb)).ws, rfl, (Upd.of_below hb)⟩
  · rw [if_neg h0] at HI
    have hl : 0 < W.length := by cases W with | nil => exact absurd rfl h0 | cons a l => simp
    obtain ⟨-, ⟨_, h2⟩ | ⟨g, off, cap, cur, rfl, hg, hcap, hcm, hsz, -⟩⟩ := h.ws
    · omega
    unfold maxLen at hcm
    have hwl := h.wl
    have hmx := h.mx
    have HH := Lib.hid (And.intro h (And.intro hq (And.intro hs (And.intro hg (And.intro hsz hqn)))))
    clear h hq hs h0 hg hsz hqn
    go_enter Tryz.func198, Tryz.ntmps198
    go_wp2_with fail
    refine HI.out.mono ?_
    rintro e w1 ⟨rfl, hb⟩
    have hu1 : Upd (fun _ => False) w w1 := Upd.of_below hb
    clear hb
    go_wp2
    go_loopw [5, 6] (fun s5 s6 wr => ∃ k : Nat, 1 ≤ k ∧ k ≤ W.length ∧ s5 = .int .i64 0 ∧ s6 = .int .i64 k ∧ Upd (fun _ => False) w wr) (fun _ s6 _ => W.length - (intOf s6).toNat)
    case atStart => exact ⟨1, by omega, by omega, rfl, rfl, hu1⟩
    case round =>
      obtain ⟨k, hk1, hk, rfl, rfl, hu⟩ := hrel
      by_cases hlt : k < W.length
      · obtain ⟨h, hq, hs, hg, hsz, hqn⟩ := HH.out
        obtain ⟨g', off', cap', e1, hgl, hcap', hr⟩ := (h.new hu).range hlt
        cases e1
        have hlw := h.lt W[k] (List.getElem_mem hlt)
        have h64 := h.w64 W[k] (List.getElem_mem hlt)
        have b1 : (0 : Int) ≤ (k : Int) := by omega
        have b2 : (k : Int) < (W.length : Int) := by omega
        have hqw : wr.cell? ⟨q, 0, none⟩ = some (.int .i64 s) := hu.cellv hq (fun h => h)
        have hu2 : Upd (fun _ => False) w (wr.alloc (.cells (wrC (W[k].1 : Int) W[k].2).toArray 279)) := hu.alloc _
        have hr2 := range_of_block (heap_alloc_last wr (.cells (wrC (W[k].1 : Int) W[k].2).toArray 279) rfl)
        have hc := jcov1 (wr.alloc (.cells (wrC (W[k].1 : Int) W[k].2).toArray 279)) q s (cell_keep_alloc hqw _) W[k].1 W[k].2 (by omega)
        generalize W[k].1 = x at *
        generalize W[k].2 = y at *
        have HC := Lib.hid (And.intro hc hu2)
        clear h hc hs hq hlw hu hg hsz hqn hqw hu2
        go_wp2_with (first
          | refine wpList_load_mid rfl _ _ rfl _ _ rfl _ _ hr Tryz.underlying279 rfl (sizeWt _ _ h64) ?_
          | refine wpList_load_mid rfl _ _ rfl _ _ rfl _ _ hr2 Tryz.underlying279 rfl (sizeWt _ _ h64) ?_
          | (refine wpList_store_new rfl _ _ _ rfl _ _ _ rfl rfl (by rw [zero_wt, wrC_len, h64]) (sizeWt _ _ h64) (wrC_one _ _) ?_)
          | fail)
        refine HC.out.1.mono ?_
        rintro e w3 ⟨rfl, hb3⟩
        have hu3 : Upd (fun _ => False) w w3 := HC.out.2.trans (Upd.of_below hb3)
        clear hb3
        go_wp2
        go_roundw
        case rel => exact ⟨k + 1, by omega, by omega, rfl, by go_num, hu3⟩
        case measure => simp [intOf]; omega
      · obtain rfl : k = W.length := by omega
        obtain ⟨h, hq, hs, hg, hsz, hqn⟩ := HH.out
        have hg2 := (hu.block _ (lt_of_block hg) (fun h => h)).trans hg
        have hle := Nat.mul_le_mul_right 65 hcap
        obtain ⟨w3, hrun, hu3, cur3, hg3, hz3⟩ := run_clear_wt (off := off) (n := W.length) (cap := cap) hg2 (by omega) hl
        have HF := Lib.hid (And.intro hu (And.intro hu3 (And.intro hg3 (And.intro hz3 hsz))))
        clear h hq hs hg hsz hqn hu hu3 hg3 hg2 hz3 hle
        go_wp2
        go_ret
        refine ⟨_, rfl, ⟨by simp, .inr ⟨g, off, cap, cur3, rfl, HF.out.2.2.1, by omega, by unfold maxLen; omega, by rw [HF.out.2.2.2.1]; exact HF.out.2.2.2.2, by simp⟩⟩, rfl, (HF.out.1.mono (fun _ _ h => h.elim)).trans (HF.out.2.1.mono (fun k _ e => by simp [Value.ownBlock, e]))⟩
def CovPost (S : Nat → Prop) (w : World) (j d base n next : Nat) (e : Ending) (w' : World) : Prop := e = .returned (.int .i64 0) ∧ Jn S w' j d base n (next - 1) next [] ∧ Upd S w w'
set_option maxRecDepth 100000 in
set_option maxHeartbeats 1000000 in
theorem jcover {S : Nat → Prop} {w : World} {j d base n cov next : Nat} {W : List (Nat × Bk)} (h : Jn S w j d base n cov next W) (s : Int) (hs : s = (next : Int) - 1) :
    Calls Tryz.prog 159 #[.pointer (some ⟨j, 0, none⟩), .int .i64 s] w (CovPost S w j d base n next) := by
  obtain ⟨vw, h, hS⟩ := h
  have hu1 : Upd (fun _ => False) w (w.alloc (.cells #[.int .i64 s] 3)) := (Upd.refl _ w).alloc _
  have hq : (w.alloc (.cells #[.int .i64 s] 3)).cell? ⟨w.heap.size, 0, none⟩ = some (.int .i64 s) := cell_of_block (heap_alloc_last w _ rfl) 0
  have hd1 := h.new hu1
  have hjl := lt_of_block h.str
  have hwl := h.good.wl
  have hmx := h.good.mx
  have hmf : ∀ (fn : Fn) (first cap : Array Value) (w : World), (Instr.makeFunc fn first cap).run Tryz.prog w = .ok (.func fn first cap) w := fun _ _ _ _ => rfl
  have q1 : decide (s < (cov : Int)) = false := by simp; omega
  have q2 : decide ((next : Int) ≤ s) = false := by simp; omega
  have hqn : vw.ownBlock ≠ some w.heap.size := fun e => by have := h.ws.lt e; omega
  have HA := Lib.hid (And.intro h (And.intro hu1 (And.intro hqn (And.intro hs hS))))
  clear h hqn hs hS
  go_enter Tryz.func159, Tryz.ntmps159
  go_wp2_with fail
  have HD := Lib.hid (And.intro hd1 hq)
  generalize hW1 : w.alloc (.cells #[.int .i64 s] 3) = w1 at *
  have hm : w.heap.size < w1.heap.size := by rw [← hW1]; simp
  clear hW1
  obtain ⟨c0, c1, c2, c3, c4, c5⟩ := hd1.c
  clear hd1 hu1
  go_quiet (fail)
  have hu2 : Upd (fun _ => False) w1 (w1.drewN nq) := (Upd.refl _ _).drewN nq
  generalize w1.drewN nq = w2 at *
  obtain ⟨h, hu1, hqn, hs, hS⟩ := HA.out
  have hd2 := HD.out.1.new hu2
  have hq2 : w2.cell? ⟨w.heap.size, 0, none⟩ = some (.int .i64 s) := hu2.cellv HD.out.2 (fun h => h)
  clear c0 c1 c2 c3 c4 c5
  obtain ⟨c0, c1, c2, c3, c4, c5⟩ := hd2.c
  have f3 := hd2.fz 3
  have hs3 := heap_setCell_same hd2.str 3 (.int .i64 s)
  have hu3 := upd_setCell w2 j 3 (.int .i64 s)
  have hq3 : (w2.setCell ⟨j, 3, none⟩ (.int .i64 s)).cell? ⟨w.heap.size, 0, none⟩ = some (.int .i64 s) := (hu3.cellv hq2 (by omega))
  have hne : vw.ownBlock ≠ some j := hd2.wb
  have hw3 := hd2.wt.keep hu3 (fun k hk e => hne (by rw [hk, e]))
  have HB := Lib.hid (jdel hw3 w.heap.size s hq3 hqn hs)
  have HC := Lib.hid (And.intro hd2 (And.intro hu2 (And.intro hs3 (And.intro hu3 (And.intro hu1 (And.intro hS (And.intro hs hqn)))))))
  have c0' := c0
  have c5' : (w2.setCell ⟨j, 3, none⟩ (.int .i64 s)).cell? ⟨j, 5, none⟩ = some vw := by rw [cell_of_block hs3]; rfl
  obtain ⟨ao, c, hv⟩ := hd2.ws.rd.nil_iff
  clear hd2 hu2 hs3 hu3 hu1 hS hs hqn hw3 hne hq3 h c1 c2 c4 c0'
  subst hv
  generalize hW3 : w2.setCell ⟨j, 3, none⟩ (.int .i64 s) = w3 at *
  go_wp2_with fail
  refine HB.out.mono ?_
  rintro e w4 ⟨v4, rfl, hs4, ho4, hu4⟩
  obtain ⟨ao4, c4, rfl⟩ := hs4.rd.nil_iff
  obtain ⟨hd2, hu2, hs3, hu3, hu1, hS, hs, hqn⟩ := HC.out
  have hs4' := (hu4.block _ (lt_of_block hs3) hd2.wb).trans hs3
  have d0 : w4.cell? ⟨j, 5, none⟩ = some (.slice ao W.length c) := by rw [cell_of_block hs4']; rfl
  have d1 := frozen_of_block hs4' 5
  have HE := Lib.hid (And.intro hs4 (And.intro ho4 (And.intro hu4 hs4')))
  clear hs4 ho4 hu4 hs4' hd2 hu2 hs3 hu3 hu1 hS hs hqn c0 c3 c5 c5' f3 hq2
  go_wp2
  go_ret
  obtain ⟨hd2, hu2, hs3, hu3, hu1, hS, hs, hqn⟩ := HC.out
  obtain ⟨hs4, ho4, hu4, hs4'⟩ := HE.out
  have hu5 := upd_setCell w4 j 5 (.slice ao4 0 c4)
  have h5 := heap_setCell_same hs4' 5 (.slice ao4 0 c4)
  have hnb : (Value.slice ao4 0 c4).ownBlock ≠ some j := by rw [ho4]; exact hd2.wb
  have hgd := hd2.good
  have hss : s = ((next - 1 : Nat) : Int) := by have := hgd.wl; omega
  refine ⟨rfl, ⟨.slice ao4 0 c4, ⟨?_, hs4.keep_ne hu5 hnb, hnb, ⟨by simp, by simp, hgd.n1, by simp; have := hgd.wl; omega, by have := hgd.n1; omega, hgd.mx, hgd.bs⟩⟩, ?_⟩, ?_⟩
  · rw [h5, ← hss]
    rfl
  · rintro k (rfl | hk)
    · exact hS _ (.inl rfl)
    · rw [ho4] at hk; exact hS _ (.inr hk)
  · have a1 : Upd S w w2 := (hu1.trans hu2).mono (fun _ _ h => h.elim)
    have a2 : Upd S w2 w3 := hu3.mono (fun k _ e => e ▸ hS j (.inl rfl))
    have a3 : Upd S w3 w4 := hu4.mono (fun k _ e => hS k (.inr e))
    have a4 : Upd S w4 (w4.setCell ⟨j, 5, none⟩ (.slice ao4 0 c4)) := hu5.mono (fun k _ e => e ▸ hS j (.inl rfl))
    exact ((a1.trans a2).trans a3).trans a4
section
variable {own : Nat → Nat} {w w' : World} {c : Nat} {n : CaN} {p : CaP} {a : CaS}
theorem putG_len (G : List (Int → Bool)) (k : Nat) (x : Int) : (putG G k x).length = G.length := by simp [putG]
theorem ca_lput (h : CaAt own w c n p a) (k : Nat) (hk : k < n.sl) (x : Int) (hx : x = -1 ∨ (0 ≤ x ∧ x < (n.bl : Int))) :
    Calls Tryz.prog 190 #[ptr p.lg, .int .i64 (k : Int), .int .i64 x] w (CaOut own w c n p { a with G := putG a.G k x } (.int .i64 0)) :=
  (lput h.open7 k (by rw [h.Gl]; exact hk) x hx).mono fun _ _ ⟨he, hd, hu⟩ => ⟨he, _, h.turn7 hu hd (putG_len _ _ _), h.did7 hu⟩
theorem ca_cover (h : CaAt own w c n p a) (s : Int) (hs : s = (a.next : Int) - 1) :
    Calls Tryz.prog 159 #[ptr p.jr, .int .i64 s] w (CaOut own w c n p { a with cov := a.next - 1, W := [] } (.int .i64 0)) :=
  (jcover h.open4 s hs).mono fun _ _ ⟨he, hd, hu⟩ => ⟨he, _, h.turn4 hu hd, h.did4 hu⟩
def anyA : Int → Bool := updB (fun _ => false) (-1) true
def anyTo (G : List (Int → Bool)) (k : Nat) : List (Int → Bool) := List.replicate k anyA ++ G.drop k
theorem anyTo_zero (G : List (Int → Bool)) : anyTo G 0 = G := by simp [anyTo]
theorem anyTo_all (G : List (Int → Bool)) : anyTo G G.length = List.replicate G.length anyA := by simp [anyTo]
theorem modify_mid {α : Type} (f : α → α) : ∀ (l : List α) (x : α) (r : List α), (l ++ x :: r).modify l.length f = l ++ f x :: r
  | [], _, _ => by simp
  | y :: l, x, r => by simpa using modify_mid f l x r
theorem anyTo_step {G : List (Int → Bool)} {k : Nat} (h : k < G.length) : putG (anyTo G k) k (-1) = anyTo G (k + 1) := by
  have e : G.drop k = G[k] :: G.drop (k + 1) := List.drop_eq_getElem_cons h
  have := modify_mid (fun A => putA A (-1)) (List.replicate k anyA) G[k] (G.drop (k + 1))
  rw [List.length_replicate] at this
  unfold putG anyTo
  rw [e, this, List.replicate_succ', List.append_assoc]
  simp [putA, anyA]
def LoadOut (own : Nat → Nat) (w : World) (c : Nat) (n : CaN) (p : CaP) (a : CaS) (e : Ending) (w' : World) : Prop := CaOut own w c n p { a with G := List.replicate n.sl anyA } (.int .i64 0) e w'
set_option maxRecDepth 100000 in
theorem load_nil (h : CaAt own w c n p a) : Calls Tryz.prog 155 #[ptr c, .slice none 0 0] w (LoadOut own w c n p a) := by
  have hs2 := h.ok.s2
  obtain ⟨s0, s1, s2, s3, s4, s5, s6⟩ := h.sup
  have HC := Lib.hid h
  clear h s0 s1 s3 s4 s5 s6
  go_enter Tryz.func155, Tryz.ntmps155
  go_wp2_with fail
  go_loopw [5, 15] (fun _ s15 wr => ∃ k own1, k ≤ n.sl ∧ s15 = .int .i64 (k : Int) ∧ CaAt own1 wr c n p { a with G := anyTo a.G k } ∧ Did own own1 w wr) (fun _ s15 _ => n.sl - (intOf s15).toNat)
  case atStart => exact ⟨0, own, Nat.zero_le _, rfl, by rw [anyTo_zero]; exact HC.out, Did.refl HC.out.far⟩
  case round =>
    obtain ⟨k, own1, hk, rfl, hca, hdid⟩ := hrel
    by_cases hlt : k < n.sl
    · obtain ⟨d0, d1, d2, d3, d4, d5, d6, d7, d8⟩ := hca.cells
      have HP := Lib.hid (ca_lput hca k hlt (-1) (.inl rfl))
      have HD := Lib.hid hdid
      clear hca hdid d0 d1 d2 d3 d4 d5 d7 d8 s2
      go_wp2_with fail
      refine HP.out.mono ?_
      rintro e w1 ⟨rfl, own2, hca2, hdid2⟩
      have HE := Lib.hid (And.intro hca2 hdid2)
      clear hca2 hdid2
      go_wp2
      go_roundw
      case rel =>
        refine ⟨k + 1, own2, by omega, by go_num, ?_, HD.out.trans HE.out.2⟩
        have := HE.out.1
        simp only [anyTo_step (show k < a.G.length by rw [HC.out.Gl]; exact hlt)] at this
        exact this
      case measure => simp [intOf]; omega
    · obtain rfl : k = n.sl := by omega
      have HD := Lib.hid (And.intro hca hdid)
      clear hca hdid s2
      go_wp2
      go_loopw [27] (fun s27 wr' => s27 = .int .i64 0 ∧ wr' = wr) (fun _ _ => 0)
      case atStart => exact ⟨rfl, rfl⟩
      case round =>
        obtain ⟨rfl, rfl⟩ := hrel
        go_wp2
        go_ret
        refine ⟨rfl, own1, ?_, HD.out.2⟩
        have := HD.out.1
        rw [← HC.out.Gl, anyTo_all, HC.out.Gl] at this
        exact this
end
end Go.Proofs.YtnadilfobmgebaaGreatDoor
