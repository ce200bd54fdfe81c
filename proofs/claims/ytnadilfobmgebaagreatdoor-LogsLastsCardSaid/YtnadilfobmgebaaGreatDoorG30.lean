/- The chapter's example of the logs: the walk. The two tables that the logs' laws read, as they are laid. -/
import Derived.Test.YtnadilfobmgebaaGreatDoorG29
import Derived.Test.YtnadilfobmgebaaGreatDoorG09
import Derived.Test.YtnadilfobmgebaaGreatDoorG08
import Derived.Test.YtnadilfobmgebaaGreatDoorCards
import Derived.Test.YtnadilfobmgebaaGreatDoorTie
import Derived.ProofKit
import Derived.OpenShut
import Derived.Deep.DeepHandedRow
import Derived.Lib.LaidTab
namespace Go.Proofs.YtnadilfobmgebaaGreatDoor
open Go Go.RowKit
theorem next_a {S : Nat → Prop} {w : World} {li lc lf d : Nat} (h : L17 S w li lc lf d 3 aF [] []) :
    Calls Tryz.prog 55 #[.agg #[ptr li, ptr lc, ptr lf]] w fun e w' => e = .returned (.tuple #[.int .i64 2, .int .i64 0]) ∧ Upd S w w' := by
  refine (next_any (lc := lc) (lf := lf) h.i h.dv h.nS h.iS h.nib h.nibS tellsOpen1 (by have := h.fl; omega)).mono ?_
  rintro e w' ⟨h1, -, hu⟩
  refine ⟨?_, hu⟩
  rcases h1 with ⟨-, ⟨h2, -⟩ | ⟨a, L, r, h2, h3⟩⟩ | ⟨i, hi, h2, -⟩
  · rw [a4] at h2; cases h2
  · rw [a4] at h2
    cases L with
    | nil =>
      simp at h2
      obtain ⟨h2, -⟩ := h2
      rw [h3, ← h2]
      rfl
    | cons x L =>
      simp at h2
  · exact absurd (a5 i hi) h2
theorem pa1 {S : Nat → Prop} {w : World} {li lc lf d : Nat} (h : L17 S w li lc lf d 3 (devL 3) [] []) :
    Calls Tryz.prog 23 #[ptr li, .agg (intC 1 1 4 1).toArray] w fun e w' => e = .returned (.int .i64 0) ∧ L17 S w' li lc lf d 3 aF [] [] ∧ Upd S w w' := by
  have := l17_put h (by simp) 1 1 4 1
  rw [show logPutR (mayI [1, 1, 4, 1]) 11 3 1 (intentB (1 : Int).toNat (1 : Int).toNat (4 : Int).toNat (1 : Int).toNat) (devL 3) [] [] = thPut (devL 3) 3 1 4 from thPut_eq (id := 1) (x := 4) (by omega) (by omega), a1] at this
  exact this
theorem pa2 {S : Nat → Prop} {w : World} {li lc lf d : Nat} (h : L17 S w li lc lf d 3 aF [] []) :
    Calls Tryz.prog 23 #[ptr li, .agg (intC 1 1 4 1).toArray] w fun e w' => e = .returned (.int .i64 0) ∧ L17 S w' li lc lf d 3 aF [] [] ∧ Upd S w w' := by
  have := l17_put h (by simp) 1 1 4 1
  rw [show logPutR (mayI [1, 1, 4, 1]) 11 3 1 (intentB (1 : Int).toNat (1 : Int).toNat (4 : Int).toNat (1 : Int).toNat) aF [] [] = thPut aF 3 1 4 from thPut_eq (id := 1) (x := 4) (by omega) (by omega), a2] at this
  exact this
theorem pa3 {S : Nat → Prop} {w : World} {li lc lf d : Nat} (h : L17 S w li lc lf d 3 aF [] []) :
    Calls Tryz.prog 23 #[ptr li, .agg (intC 1 1 5 1).toArray] w fun e w' => e = .returned (.int .i64 15) ∧ L17 S w' li lc lf d 3 aF [] [] ∧ Upd S w w' := by
  have := l17_put h (by simp) 1 1 5 1
  rw [show logPutR (mayI [1, 1, 5, 1]) 11 3 1 (intentB (1 : Int).toNat (1 : Int).toNat (5 : Int).toNat (1 : Int).toNat) aF [] [] = thPut aF 3 1 5 from thPut_eq (id := 1) (x := 5) (by omega) (by omega), a3] at this
  exact this
set_option maxRecDepth 100000 in
set_option maxHeartbeats 1000000 in
theorem awake17 (w : World) (nib : Nib w) (tur : Tur w) : Calls Tryz.prog 14 #[] w fun e w' => e = .returned (.bool true) ∧ Below w.heap.size w w' := by
  have HO := Lib.hid (opened_ok 3 (by omega) (by omega) w nib tur)
  clear nib tur
  go_enter Tryz.func14, Tryz.ntmps14
  go_wp2_with fail
  refine HO.out.mono ?_
  rintro e w1 ⟨li, lc, lf, d, S, rfl, hL, hS, hb⟩
  have hu0 : Upd (fun _ => False) w w1 := Upd.of_below hb
  obtain ⟨w2, hw2⟩ : ∃ w2, w2 = w1.alloc (.cells #[ptr li, ptr lc, ptr lf] 28) := ⟨_, rfl⟩
  have hu2 : Upd (fun _ => False) w1 w2 := by rw [hw2]; exact (Upd.refl _ w1).alloc _
  have hL2 : L17 (fun j => S j ∧ j ≠ w1.heap.size) w2 li lc lf d 3 (devL 3) [] [] := by rw [hw2]; exact hL.box _
  have hg2 : w2.heap[w1.heap.size]? = some (.cells #[ptr li, ptr lc, ptr lf] 28 (0, 0)) := by rw [hw2]; exact heap_alloc_last w1 _ rfl
  have H2 := Lib.hid (And.intro hL2 (And.intro ((hu0.trans hu2).mono (S' := fun j => w.heap.size ≤ j) (fun _ _ h => h.elim)) hg2))
  have HW := Lib.hid hw2
  clear hL hb hu0 hu2 hL2 hg2 hw2
  go_upto_region 4 with fail
  rw [← HW.out]
  obtain ⟨hL, hU, hg⟩ := H2.out
  have hud : Upd (fun _ => False) w2 w2.drew := (Upd.refl _ w2).drew
  have c0 : w2.cell? ⟨w1.heap.size, 0, none⟩ = some (ptr li) := cell_of_block hg 0
  have H3 := Lib.hid (And.intro (hL.new hud) (And.intro (hU.trans (hud.mono (fun _ _ h => h.elim))) (hud.blockv hg)))
  clear hL hU hg hud H2
  go_region_held3 (fun W => W.cell? ⟨w1.heap.size, 0, none⟩ = some (ptr li)) (go_keep)
    (first
    | ((go_at_call 21; refine (thing_ok 1 4 _).mono ?_; rintro e w3 ⟨rfl, hu3⟩; have k0 : w3.cell? ⟨w1.heap.size, 0, none⟩ = some (ptr li) := cell_of_block (hu3.blockv H3.out.2.2) 0; have H4 := Lib.hid (And.intro (H3.out.1.new hu3) (And.intro (H3.out.2.1.trans (hu3.mono (fun _ _ h => h.elim))) (hu3.blockv H3.out.2.2))); clear hu3))
    | ((go_at_call 23; refine (pa1 H4.out.1).mono ?_; rintro e w4 ⟨rfl, hL4, hu4⟩; have hg4 := (hu4.block _ (lt_of_block H4.out.2.2) (fun h => h.2 rfl)).trans H4.out.2.2; have k1 : w4.cell? ⟨w1.heap.size, 0, none⟩ = some (ptr li) := cell_of_block hg4 0; have H5 := Lib.hid (And.intro hL4 (And.intro hu4 hg4)); clear hL4 hu4 hg4)))
  rename_i hHeld
  have H2 := Lib.hid (And.intro H5.out.1 (And.intro (H4.out.2.1.trans (H5.out.2.1.mono (S' := fun j => w.heap.size ≤ j) (fun j _ hj => hS j hj.1))) H5.out.2.2))
  clear H3 H4 H5 k0 k1 c0 hHeld
  go_upto_region 5 with fail
  obtain ⟨hL, hU, hg⟩ := H2.out
  have hud : Upd (fun _ => False) w4 w4.drew := (Upd.refl _ w4).drew
  have c0 : w4.cell? ⟨w1.heap.size, 0, none⟩ = some (ptr li) := cell_of_block hg 0
  have H3 := Lib.hid (And.intro (hL.new hud) (And.intro (hU.trans (hud.mono (fun _ _ h => h.elim))) (hud.blockv hg)))
  clear hL hU hg hud H2
  go_region_held3 (fun W => W.cell? ⟨w1.heap.size, 0, none⟩ = some (ptr li)) (go_keep)
    (first
    | ((go_at_call 21; refine (thing_ok 1 4 _).mono ?_; rintro e w5 ⟨rfl, hu3⟩; have k0 : w5.cell? ⟨w1.heap.size, 0, none⟩ = some (ptr li) := cell_of_block (hu3.blockv H3.out.2.2) 0; have H4 := Lib.hid (And.intro (H3.out.1.new hu3) (And.intro (H3.out.2.1.trans (hu3.mono (fun _ _ h => h.elim))) (hu3.blockv H3.out.2.2))); clear hu3))
    | ((go_at_call 23; refine (pa2 H4.out.1).mono ?_; rintro e w6 ⟨rfl, hL4, hu4⟩; have hg4 := (hu4.block _ (lt_of_block H4.out.2.2) (fun h => h.2 rfl)).trans H4.out.2.2; have k1 : w6.cell? ⟨w1.heap.size, 0, none⟩ = some (ptr li) := cell_of_block hg4 0; have H5 := Lib.hid (And.intro hL4 (And.intro hu4 hg4)); clear hL4 hu4 hg4)))
  rename_i hHeld
  have H2 := Lib.hid (And.intro H5.out.1 (And.intro (H4.out.2.1.trans (H5.out.2.1.mono (S' := fun j => w.heap.size ≤ j) (fun j _ hj => hS j hj.1))) H5.out.2.2))
  clear H3 H4 H5 k0 k1 c0 hHeld
  go_upto_region 6 with fail
  obtain ⟨hL, hU, hg⟩ := H2.out
  have hud : Upd (fun _ => False) w6 w6.drew := (Upd.refl _ w6).drew
  have c0 : w6.cell? ⟨w1.heap.size, 0, none⟩ = some (ptr li) := cell_of_block hg 0
  have H3 := Lib.hid (And.intro (hL.new hud) (And.intro (hU.trans (hud.mono (fun _ _ h => h.elim))) (hud.blockv hg)))
  clear hL hU hg hud H2
  go_region_held3 (fun W => W.cell? ⟨w1.heap.size, 0, none⟩ = some (ptr li)) (go_keep)
    (first
    | ((go_at_call 21; refine (thing_ok 1 5 _).mono ?_; rintro e w7 ⟨rfl, hu3⟩; have k0 : w7.cell? ⟨w1.heap.size, 0, none⟩ = some (ptr li) := cell_of_block (hu3.blockv H3.out.2.2) 0; have H4 := Lib.hid (And.intro (H3.out.1.new hu3) (And.intro (H3.out.2.1.trans (hu3.mono (fun _ _ h => h.elim))) (hu3.blockv H3.out.2.2))); clear hu3))
    | ((go_at_call 23; refine (pa3 H4.out.1).mono ?_; rintro e w8 ⟨rfl, hL4, hu4⟩; have hg4 := (hu4.block _ (lt_of_block H4.out.2.2) (fun h => h.2 rfl)).trans H4.out.2.2; have k1 : w8.cell? ⟨w1.heap.size, 0, none⟩ = some (ptr li) := cell_of_block hg4 0; have H5 := Lib.hid (And.intro hL4 (And.intro hu4 hg4)); clear hL4 hu4 hg4)))
  rename_i hHeld
  have H2 := Lib.hid (And.intro H5.out.1 (And.intro (H4.out.2.1.trans (H5.out.2.1.mono (S' := fun j => w.heap.size ≤ j) (fun j _ hj => hS j hj.1))) H5.out.2.2))
  clear H3 H4 H5 k0 k1 c0 hHeld
  obtain ⟨hL, hU, hg⟩ := H2.out
  have c0 : w8.cell? ⟨w1.heap.size, 0, none⟩ = some (ptr li) := cell_of_block hg 0
  have c1 : w8.cell? ⟨w1.heap.size, 1, none⟩ = some (ptr lc) := cell_of_block hg 1
  have c2 : w8.cell? ⟨w1.heap.size, 2, none⟩ = some (ptr lf) := cell_of_block hg 2
  have HN := Lib.hid (next_a hL)
  clear hL hU hg
  go_wp2_with fail
  refine HN.out.mono ?_
  rintro e w9 ⟨rfl, hu9⟩
  have H9 := Lib.hid hu9
  clear hu9 c0 c1 c2
  go_wp2
  go_ret
  exact ⟨rfl, Upd.below ((Upd.refl (fun _ => False) w).new (H2.out.2.1.trans (H9.out.mono (S' := fun j => w.heap.size ≤ j) (fun j _ hj => hS j hj.1))) (fun i hi hs => by omega))⟩
theorem tTab : Tryz.prog.globalNamed "lavabo/slots.turns" = some 1 := by kernel_rfl
theorem tTabType : (Tryz.prog.globals[1]?).map (·.type) = some 326 := by kernel_rfl
theorem tArr : Tryz.prog.underlying 326 = some (.array 5 3) := by kernel_rfl
theorem nTab : Tryz.prog.globalNamed "lavabo/crc.nibbles" = some 0 := by kernel_rfl
theorem nTabType : (Tryz.prog.globals[0]?).map (·.type) = some 304 := by kernel_rfl
theorem nArr : Tryz.prog.underlying 304 = some (.array 16 3) := by kernel_rfl
theorem laid_tail {P : Program} {W : World} {x : String × DataW Unit} {rest : List (String × DataW Unit)} (h : laidMet P (x :: rest) W) : laidMet P rest W := by
  obtain ⟨ps, ⟨g', t', cs, fuel, p, q, hg', ht', hvar, hd, hq, rfl⟩, hn, ha⟩ := h
  exact ⟨q, hq, (List.nodup_append.1 hn).2.1, fun b off hm => ha b off (List.mem_append_right _ hm)⟩
theorem tabs17 {W : World} (h : laidMetH Tryz.prog [("lavabo/crc.nibbles", Rows.laid_lavabo_crc_nibbles), ("lavabo/slots.turns", Rows.laid_lavabo_slots_turns)] W) : Nib W ∧ Tur W := by
  have h' : laidMet Tryz.prog [("lavabo/crc.nibbles", Rows.laid_lavabo_crc_nibbles), ("lavabo/slots.turns", Rows.laid_lavabo_slots_turns)] W := h
  have hn : Lib.TabIs Tryz.prog W "lavabo/crc.nibbles" .i64 (nibT.map Int.ofNat) := Lib.tabIs_of_head (rest := [("lavabo/slots.turns", Rows.laid_lavabo_slots_turns)]) nTab nTabType nArr Tryz.underlying3 (by kernel_rfl) (by kernel_rfl) h'
  have ht : Lib.TabIs Tryz.prog W "lavabo/slots.turns" .i64 [2, 28, 24, 17, 0] := Lib.tabIs_of_head (rest := []) tTab tTabType tArr Tryz.underlying3 (by kernel_rfl) (by kernel_rfl) (laid_tail h')
  refine ⟨⟨fun i hi => ?_⟩, ht.cell tTab 0 (by decide), ht.cell tTab 1 (by decide), ht.cell tTab 2 (by decide), ht.cell tTab 3 (by decide), ht.cell tTab 4 (by decide)⟩
  have hl : (nibT.map Int.ofNat).length = 16 := by decide
  have := hn.cell nTab i (by rw [hl]; exact hi)
  rw [this]
  have e : (nibT.map Int.ofNat).getD i 0 = (nibC i : Int) := by
    unfold nibC
    rw [List.getD_eq_getElem?_getD, List.getD_eq_getElem?_getD, List.getElem?_map]
    cases nibT[i]? <;> rfl
  rw [e]
def layT : Obj → Obj
  | .cells _ t frozen => .cells #[.int .i64 2, .int .i64 28, .int .i64 24, .int .i64 17, .int .i64 0] t frozen
  | o => o
def layN : Obj → Obj
  | .cells _ t frozen => .cells #[.int .i64 0, .int .i64 274646895, .int .i64 549293790, .int .i64 820201905, .int .i64 1098587580, .int .i64 1361435347, .int .i64 1640403810, .int .i64 1905808397, .int .i64 2197175160, .int .i64 2460548119, .int .i64 2722870694, .int .i64 2987750089, .int .i64 3280807620, .int .i64 3553878443, .int .i64 3811616794, .int .i64 4084100981] t frozen
  | o => o
noncomputable def laidWorld (os : Os) : World :=
  { World.holding Tryz.prog os ⟨#[], #[], []⟩ with heap := (((World.holding Tryz.prog os ⟨#[], #[], []⟩).heap.modify 1 layT).modify 0 layN) }
theorem wf_in {x : Int} (h : (Lit.int .i64 x).wf = true) : -9223372036854775808 ≤ x ∧ x < 9223372036854775808 := by
  have e1 : IntKind.i64.min = -9223372036854775808 := by decide
  have e2 : IntKind.i64.max = 9223372036854775807 := by decide
  simp only [Lit.wf, e1, e2, Bool.and_eq_true, decide_eq_true_eq] at h
  omega
end Go.Proofs.YtnadilfobmgebaaGreatDoor
