/- The iterators over a clock's keys, and over its ghosts: their contracts. All, Ghosts: which iterators they give. A cache: spare. -/
import Derived.RangeFuncNested
import Derived.RangeFuncBound
import Derived.RangeFuncCalls
import Derived.RangeFuncLeaves
import Derived.RangeFuncBox
import Derived.Shelf.Abstract
import Derived.WalkKit
import Derived.OwnWalkIn
import Derived.TacticsInMore
import Derived.LoopNIn
import Derived.LoopIn
import Derived.BigRegionIn
import Derived.Shelf.RegionOpen
import Derived.Maps.AppendAt
import Derived.Test.YtfhfbpmlnjdfoaaGreatDoorG13
import Derived.Test.YtfhfbpmlnjdfoaaGreatDoorG20
namespace Go.Proofs.YtfhfbpmlnjdfoaaGreatDoor
open Go Go.RowKit Go.Shelf
attribute [local go_sem] Oper.semAt_some
abbrev It7 := Int × Bool
abbrev enc7 (x : It7) : Array Value := #[.int .i64 x.1, .bool x.2]
def kaL (K : List Int) (A : Int → Bool) : List It7 := K.map fun k => (k, A k)
theorem kaL_len (K : List Int) (A : Int → Bool) : (kaL K A).length = K.length := by simp [kaL]
theorem kaL_take (K : List Int) (A : Int → Bool) {k : Nat} (h : k < K.length) : (kaL K A).take (k + 1) = (kaL K A).take k ++ [(K[k], A K[k])] := by
  rw [List.take_succ_eq_append_getElem (by rw [kaL_len]; exact h)]; simp [kaL]
theorem kabides_new {β : Type} {B : Nat} {J : β → World → Prop} (hJ : AbidesFrom B J) {s : β} {W W' : World} (h : J s W) (hu : Upd (fun _ => False) W W') : J s W' :=
  hJ s W W' none h ⟨hu.os, hu.tape, hu.output, hu.size, fun k hk _ => hu.block k hk (fun h => h)⟩ (fun r e => by cases e)
set_option maxRecDepth 100000 in
set_option maxHeartbeats 2000000 in
theorem ka_in (n : Nat) (hn : 2 ≤ n) (S : Nat → Prop) (l Bs Bm mb N : Nat) (K : List Int) (A : Int → Bool) (v : Value)
    (hle : K.length ≤ 4096) (hr : ∀ x ∈ K, InR x) (hv : ∀ g, v.ownBlock = some g → ¬ S g) (hBm : ¬ S Bm) (hmb : ¬ S mb) (J Jx : List It7 → World → Prop) (B0 : Nat) (hJ : AbidesFrom B0 J)
    (hY : ∀ pre (x : It7) W, J pre W → pre.length < K.length → YieldAt Fence.wide (n - 1) Tryz.prog l (enc7 x) W fun e W' =>
      (e = .returned (.bool true) ∧ J (pre ++ [x]) W' ∧ Upd S W W') ∨ (e = .returned (.bool false) ∧ Jx (pre ++ [x]) W'))
    (W : World) (hBs : W.cell? ⟨Bs, 0, none⟩ = some v) (hcm : W.cell? ⟨Bm, 0, none⟩ = some (.map (some mb))) (hs : Sl W 3 1 v K.length (ints K)) (ha : SetAt W mb N A) (h0 : J [] W) :
    CallsIn Fence.wide n Tryz.prog 300 #[.func (.yield l) #[] #[], .pointer (some ⟨Bs, 0, none⟩), .pointer (some ⟨Bm, 0, none⟩)] W fun e W' => (∃ v, e = .returned v) ∧
      ((∃ ys, ys = kaL K A ∧ J ys W') ∨ (∃ pre, pre <+: kaL K A ∧ Jx pre W')) := by
  have HS := Lib.hid hs
  have HA := Lib.hid ha
  have HV := Lib.hid hv
  have HR := Lib.hid hr
  have hBmW := (addr_of_cell hcm).2
  obtain ⟨ao, c, rfl⟩ := hs.rd.nil_iff
  clear hs ha hv hr
  refine callsIn_of_wp Tryz.func300 rfl trivial ?_ rfl
  simp only [Tryz.ntmps300, List.size_toArray, List.length_cons, List.length_nil, Nat.reduceAdd, Nat.reduceSub, Array.replicate_succ, Array.replicate_zero, List.push_toArray, List.append_toArray, List.nil_append, List.cons_append]
  gi_wp2
  gi_loopw [8] (fun i wr => ∃ k : Nat, k ≤ K.length ∧ i = .int .i64 k ∧ J ((kaL K A).take k) wr ∧ Upd S W wr)
    (fun i _ => K.length - (intOf i).toNat)
  case atStart => exact ⟨0, Nat.zero_le _, rfl, h0, Upd.refl _ _⟩
  case round =>
    obtain ⟨k, hk, rfl, hJs, hnx⟩ := hrel
    have hcm' : wr.cell? ⟨Bm, 0, none⟩ = some (.map (some mb)) := (hnx.cellAt hBmW hBm).trans hcm
    by_cases hlt : k < K.length
    · have hsr := HS.out.keep hnx HV.out
      obtain ⟨gk, ok, ck, hvk, hgk, hck⟩ := hsr.rd.at (by omega)
      cases hvk
      have hcell := hck k _ (get_ints hlt)
      have HA2 := Lib.hid (HA.out.keep hnx hmb)
      have HM : Hid ((kaL K A).take (k + 1) = (kaL K A).take k ++ [(K[k], A K[k])]) := kaL_take K A hlt
      have HLT : Hid (((kaL K A).take k).length < K.length) := by show _ < _; rw [List.length_take, kaL_len]; omega
      have hkr : InR K[k] := HR.out _ (List.getElem_mem hlt)
      obtain ⟨x, hx⟩ : ∃ x, x = K[k] := ⟨_, rfl⟩
      rw [← hx] at hcell HM hkr
      clear hsr hck hgk hx
      gi_wp2_with fail
      refine ⟨trivial, fun _ => by omega, ?_⟩
      refine (callsIn_wide.2 (wasAsked_any HA2.out x hkr)).mono ?_
      rintro e w3 ⟨rfl, hb3⟩
      have hu4 : Upd (fun _ => False) wr w3 := Upd.of_below hb3
      have HJ := Lib.hid (kabides_new hJ hJs hu4)
      have HU := Lib.hid (hnx.trans (hu4.mono (S' := S) (fun _ _ h => h.elim)))
      obtain ⟨fn, tmps, assign, body, hy, hR⟩ := hY _ (x, A x) w3 HJ.out HLT.out
      simp only [enc7] at hy
      clear hb3 hu4
      gi_wp2
      refine ⟨fun _ => by omega, ?_⟩
      refine hR.mono ?_
      rintro e W3 (⟨rfl, hJ3, hk3⟩ | ⟨rfl, hJx3⟩)
      · have HJ3 := Lib.hid hJ3
        have HU3 := Lib.hid (HU.out.trans hk3)
        clear hJ3 hk3 hR
        gi_wp2
        go_roundw
        case rel => exact ⟨k + 1, by omega, by simp, by rw [HM.out]; exact HJ3.out, HU3.out⟩
        case measure => simp [intOf]; omega
      · clear hR
        gi_wp2
        refine bodyPost_ret (results_none rfl _ _ _) rfl ?_
        exact ⟨⟨_, rfl⟩, .inr ⟨_, by rw [← HM.out]; exact List.take_prefix _ _, hJx3⟩⟩
    · obtain rfl : k = K.length := by omega
      have HT : Hid ((kaL K A).take K.length = kaL K A) := List.take_of_length_le (by rw [kaL_len]; exact Nat.le_refl _)
      gi_wp2
      go_end0
      exact ⟨⟨_, rfl⟩, .inl ⟨_, rfl, by rw [← HT.out]; exact hJs⟩⟩
def GivesE {α : Type} (enc : α → Array Value) (w : World) (gf : Nat) (lb : Array Value) (xs : List α) : Prop :=
  (∀ args w, (callFunc gf args).run Tryz.prog w = .ok (.enter gf args) w) ∧
  ∀ (n : Nat), 2 ≤ n → ∀ (S : Nat → Prop), (∀ j, S j → w.heap.size ≤ j) → ∀ w2, Below w.heap.size w w2 →
    SeqStopsK Fence.wide n Tryz.prog gf lb enc (Upd S) (fun ys => ys = xs) (fun pre => pre <+: xs) xs.length w2
theorem cell_set_same {W : World} {p : Nat} {v : Value} (h : ∃ u, W.cell? ⟨p, 0, none⟩ = some u) : (W.setCell ⟨p, 0, none⟩ v).cell? ⟨p, 0, none⟩ = some v := by
  obtain ⟨u, h⟩ := h
  exact World.cell?_setCell_same W _ v h
theorem cell_set_ne {W : World} {p q : Nat} {v : Value} (h : p ≠ q) : (W.setCell ⟨q, 0, none⟩ v).cell? ⟨p, 0, none⟩ = W.cell? ⟨p, 0, none⟩ :=
  World.cell?_of_block (a := ⟨p, 0, none⟩) (w := W) (Below.heap_setCell W ⟨q, 0, none⟩ v p h)
theorem cell_set_same2 {W : World} {p q : Nat} {v v' : Value} (hne : p ≠ q) (h : ∃ u, W.cell? ⟨p, 0, none⟩ = some u) : ((W.setCell ⟨q, 0, none⟩ v').setCell ⟨p, 0, none⟩ v).cell? ⟨p, 0, none⟩ = some v := by
  obtain ⟨u, h⟩ := h
  exact cell_set_same ⟨u, (cell_set_ne hne).trans h⟩
theorem cell_alloc_lt {W : World} {p : Nat} {o : Obj} (h : p < W.heap.size) : (W.alloc o).cell? ⟨p, 0, none⟩ = W.cell? ⟨p, 0, none⟩ :=
  World.cell?_of_block (a := ⟨p, 0, none⟩) (w := W) (Below.heap_alloc W o p h)
theorem cell_new {W : World} {n : Nat} {v : Value} {T : TypeId} (h : n = W.heap.size) : (W.alloc (.cells #[v] T)).cell? ⟨n, 0, none⟩ = some v :=
  cell_of_block (heap_alloc_last W _ h) 0
def AllPost (w : World) (N : Nat) (K : List Int) (A : Int → Bool) (e : Ending) (w' : World) : Prop :=
  ∃ Bs Bm v m2, e = .returned (.func (.func 300) #[] #[.pointer (some ⟨Bs, 0, none⟩), .pointer (some ⟨Bm, 0, none⟩)]) ∧
      w'.cell? ⟨Bs, 0, none⟩ = some v ∧ w'.cell? ⟨Bm, 0, none⟩ = some (.map (some m2)) ∧ Sl w' 3 1 v K.length (ints K) ∧ SetAt w' m2 N A ∧ Below w.heap.size w w'
theorem all_fin {w w3 w4 W : World} {N Bs Bm m2 : Nat} {K : List Int} {A : Int → Bool} {v : Value} {e : Ending} (he : e = .returned (.func (.func 300) #[] #[.pointer (some ⟨Bs, 0, none⟩), .pointer (some ⟨Bm, 0, none⟩)]))
    (c1 : W.cell? ⟨Bs, 0, none⟩ = some v) (c2 : W.cell? ⟨Bm, 0, none⟩ = some (.map (some m2))) (hs : Sl w3 3 1 v K.length (ints K)) (h34 : Upd (fun _ => False) w3 w4) (ha : SetAt w4 m2 N A) (hu : Upd (fun j => j = Bs ∨ j = Bm) w4 W)
    (hv : ∀ g, v.ownBlock = some g → g ≠ Bs ∧ g ≠ Bm) (hm : m2 ≠ Bs ∧ m2 ≠ Bm) (h03 : Upd (fun _ => False) w w3) (hB : w.heap.size ≤ Bs ∧ w.heap.size ≤ Bm) : AllPost w N K A e W :=
  ⟨Bs, Bm, v, m2, he, c1, c2, (hs.keep h34 (fun _ _ h => h)).keep hu (fun g hg h => h.elim (hv g hg).1 (hv g hg).2), ha.keep hu (fun h => h.elim hm.1 hm.2),
    below_upd (below_upd (below_upd (Below.refl _ w) h03 (Nat.le_refl _) (fun _ h => h.elim)) h34 (Nat.le_refl _) (fun _ h => h.elim)) hu (Nat.le_refl _) (fun _j h => h.elim (fun e => e ▸ hB.1) (fun e => e ▸ hB.2))⟩
set_option maxRecDepth 100000 in
set_option maxHeartbeats 4000000 in
theorem kall_at {w : World} {b mb N most few : Nat} {vk vg : Value} {K G : List Int} {A : Int → Bool} (h : CkAt w b mb N vk vg most few K A G) :
    Calls Tryz.prog 231 #[.pointer (some ⟨b, 0, none⟩)] w (AllPost w N K A) := by
  have H := Lib.hid (fun (W : World) (hu : Upd (fun _ => False) w W) => h.keep hu (fun _ _ h => h))
  have hblt := h.blt
  have hkl := h.kle
  have hk4 : K.length ≤ 4096 := by omega
  have g2 := h.c.2.2.1
  have g3 := h.c.2.2.2.1
  clear h
  have nw0 : ¬ b = w.heap.size := by omega
  have nw1 : ¬ w.heap.size = b := by omega
  have nw2 : ¬ b = w.heap.size + 1 := by omega
  have nw3 : ¬ w.heap.size + 1 = b := by omega
  have C0 := Lib.hid (H.out (w.drew) ((Upd.refl _ _).drew))
  have CA := Lib.hid (H.out ((w.alloc (.cells #[.slice none 0 0] 87)).drew) (((Upd.refl _ _).alloc _).drew))
  have LA0 : Hid (((w.alloc (.cells #[.slice none 0 0] 87)).drew).heap[w.heap.size]? = some (.cells #[.slice none 0 0] 87 (0, 0))) := heap_alloc_last w _ rfl
  have CB := Lib.hid (H.out ((w.alloc (.cells #[.map none] 331)).drew) (((Upd.refl _ _).alloc _).drew))
  have LB0 : Hid (((w.alloc (.cells #[.map none] 331)).drew).heap[w.heap.size]? = some (.cells #[.map none] 331 (0, 0))) := heap_alloc_last w _ rfl
  have CAB := Lib.hid (H.out (((w.alloc (.cells #[.slice none 0 0] 87)).alloc (.cells #[.map none] 331)).drew) ((((Upd.refl _ _).alloc _).alloc _).drew))
  have LAB0 : Hid ((((w.alloc (.cells #[.slice none 0 0] 87)).alloc (.cells #[.map none] 331)).drew).heap[w.heap.size]? = some (.cells #[.slice none 0 0] 87 (0, 0))) := ((((Upd.refl (fun _ => False) (w.alloc (.cells #[.slice none 0 0] 87))).alloc (.cells #[.map none] 331)).block w.heap.size (by simp) (fun h => h)).trans (heap_alloc_last w _ rfl))
  have LAB1 : Hid ((((w.alloc (.cells #[.slice none 0 0] 87)).alloc (.cells #[.map none] 331)).drew).heap[w.heap.size + 1]? = some (.cells #[.map none] 331 (0, 0))) := heap_alloc_last (w.alloc _) _ (by simp)
  have CBA := Lib.hid (H.out (((w.alloc (.cells #[.map none] 331)).alloc (.cells #[.slice none 0 0] 87)).drew) ((((Upd.refl _ _).alloc _).alloc _).drew))
  have LBA0 : Hid ((((w.alloc (.cells #[.map none] 331)).alloc (.cells #[.slice none 0 0] 87)).drew).heap[w.heap.size]? = some (.cells #[.map none] 331 (0, 0))) := ((((Upd.refl (fun _ => False) (w.alloc (.cells #[.map none] 331))).alloc (.cells #[.slice none 0 0] 87)).block w.heap.size (by simp) (fun h => h)).trans (heap_alloc_last w _ rfl))
  have LBA1 : Hid ((((w.alloc (.cells #[.map none] 331)).alloc (.cells #[.slice none 0 0] 87)).drew).heap[w.heap.size + 1]? = some (.cells #[.slice none 0 0] 87 (0, 0))) := heap_alloc_last (w.alloc _) _ (by simp)
  go_enter Tryz.func231, Tryz.ntmps231
  go_wp2
  go_region_held3 (fun W => W.cell? ⟨b, 2, none⟩ = some vk ∧ W.cell? ⟨b, 3, none⟩ = some (.map (some mb))) (go_keep)
    (first
    | ((go_at_call 113; (with_reducible refine (cloneI_any C0.out.ks.rd hk4).mono ?_); rintro e w3 ⟨v3, rfl, hs3, hf3, hb3⟩; obtain ⟨ao3, c3, rfl⟩ := hs3.rd.nil_iff; have hu3 : Upd (fun _ => False) w w3 := Upd.trans ((Upd.refl _ _).drew) (Upd.of_below hb3); have hX : Hid (∀ W, Upd (fun _ => False) w3 W → True ∧ True) := fun W hu => ⟨trivial, trivial⟩; have bl3 : b < w3.heap.size := Nat.lt_of_lt_of_le hblt hu3.size; have nx0 : ¬ b = w3.heap.size := (by omega); have nx1 : ¬ w3.heap.size = b := (by omega); have nx2 : ¬ b = w3.heap.size + 1 := (by omega); have nx3 : ¬ w3.heap.size + 1 = b := (by omega); have k2 := (H.out _ hu3).c.2.2.1; have k3 := (H.out _ hu3).c.2.2.2.1; have F3 := Lib.hid (And.intro hs3 (And.intro hf3 (And.intro hb3 hu3))); clear hs3 hf3 hb3 hu3))
    | ((go_at_call 113; (with_reducible refine (cloneI_any CA.out.ks.rd hk4).mono ?_); rintro e w3 ⟨v3, rfl, hs3, hf3, hb3⟩; obtain ⟨ao3, c3, rfl⟩ := hs3.rd.nil_iff; have hu3 : Upd (fun _ => False) w w3 := Upd.trans (((Upd.refl _ _).alloc _).drew) (Upd.of_below hb3); have hX : Hid (∀ W, Upd (fun _ => False) w3 W → W.heap[w.heap.size]? = some (.cells #[.slice none 0 0] 87 (0, 0)) ∧ True) := fun W hu => ⟨(hu.block _ (Nat.lt_of_lt_of_le (lt_of_block LA0.out) hb3.size) (fun h => h)).trans ((hb3.block _ (lt_of_block LA0.out)).trans LA0.out), trivial⟩; have z0 : w.heap.size < w3.heap.size := Nat.lt_of_lt_of_le (lt_of_block LA0.out) hb3.size; have za0 := Nat.ne_of_lt z0; have zb0 := Nat.ne_of_gt z0; have bl3 : b < w3.heap.size := Nat.lt_of_lt_of_le hblt hu3.size; have nx0 : ¬ b = w3.heap.size := (by omega); have nx1 : ¬ w3.heap.size = b := (by omega); have nx2 : ¬ b = w3.heap.size + 1 := (by omega); have nx3 : ¬ w3.heap.size + 1 = b := (by omega); have k2 := (H.out _ hu3).c.2.2.1; have k3 := (H.out _ hu3).c.2.2.2.1; have F3 := Lib.hid (And.intro hs3 (And.intro hf3 (And.intro hb3 hu3))); clear hs3 hf3 hb3 hu3))
    | ((go_at_call 113; (with_reducible refine (cloneI_any CB.out.ks.rd hk4).mono ?_); rintro e w3 ⟨v3, rfl, hs3, hf3, hb3⟩; obtain ⟨ao3, c3, rfl⟩ := hs3.rd.nil_iff; have hu3 : Upd (fun _ => False) w w3 := Upd.trans (((Upd.refl _ _).alloc _).drew) (Upd.of_below hb3); have hX : Hid (∀ W, Upd (fun _ => False) w3 W → W.heap[w.heap.size]? = some (.cells #[.map none] 331 (0, 0)) ∧ True) := fun W hu => ⟨(hu.block _ (Nat.lt_of_lt_of_le (lt_of_block LB0.out) hb3.size) (fun h => h)).trans ((hb3.block _ (lt_of_block LB0.out)).trans LB0.out), trivial⟩; have z0 : w.heap.size < w3.heap.size := Nat.lt_of_lt_of_le (lt_of_block LB0.out) hb3.size; have za0 := Nat.ne_of_lt z0; have zb0 := Nat.ne_of_gt z0; have bl3 : b < w3.heap.size := Nat.lt_of_lt_of_le hblt hu3.size; have nx0 : ¬ b = w3.heap.size := (by omega); have nx1 : ¬ w3.heap.size = b := (by omega); have nx2 : ¬ b = w3.heap.size + 1 := (by omega); have nx3 : ¬ w3.heap.size + 1 = b := (by omega); have k2 := (H.out _ hu3).c.2.2.1; have k3 := (H.out _ hu3).c.2.2.2.1; have F3 := Lib.hid (And.intro hs3 (And.intro hf3 (And.intro hb3 hu3))); clear hs3 hf3 hb3 hu3))
    | ((go_at_call 113; (with_reducible refine (cloneI_any CAB.out.ks.rd hk4).mono ?_); rintro e w3 ⟨v3, rfl, hs3, hf3, hb3⟩; obtain ⟨ao3, c3, rfl⟩ := hs3.rd.nil_iff; have hu3 : Upd (fun _ => False) w w3 := Upd.trans ((((Upd.refl _ _).alloc _).alloc _).drew) (Upd.of_below hb3); have hX : Hid (∀ W, Upd (fun _ => False) w3 W → W.heap[w.heap.size]? = some (.cells #[.slice none 0 0] 87 (0, 0)) ∧ W.heap[w.heap.size + 1]? = some (.cells #[.map none] 331 (0, 0))) := fun W hu => ⟨(hu.block _ (Nat.lt_of_lt_of_le (lt_of_block LAB0.out) hb3.size) (fun h => h)).trans ((hb3.block _ (lt_of_block LAB0.out)).trans LAB0.out), (hu.block _ (Nat.lt_of_lt_of_le (lt_of_block LAB1.out) hb3.size) (fun h => h)).trans ((hb3.block _ (lt_of_block LAB1.out)).trans LAB1.out)⟩; have z0 : w.heap.size < w3.heap.size := Nat.lt_of_lt_of_le (lt_of_block LAB0.out) hb3.size; have za0 := Nat.ne_of_lt z0; have zb0 := Nat.ne_of_gt z0; have z1 : w.heap.size + 1 < w3.heap.size := Nat.lt_of_lt_of_le (lt_of_block LAB1.out) hb3.size; have za1 := Nat.ne_of_lt z1; have zb1 := Nat.ne_of_gt z1; have bl3 : b < w3.heap.size := Nat.lt_of_lt_of_le hblt hu3.size; have nx0 : ¬ b = w3.heap.size := (by omega); have nx1 : ¬ w3.heap.size = b := (by omega); have nx2 : ¬ b = w3.heap.size + 1 := (by omega); have nx3 : ¬ w3.heap.size + 1 = b := (by omega); have k2 := (H.out _ hu3).c.2.2.1; have k3 := (H.out _ hu3).c.2.2.2.1; have F3 := Lib.hid (And.intro hs3 (And.intro hf3 (And.intro hb3 hu3))); clear hs3 hf3 hb3 hu3))
    | ((go_at_call 113; (with_reducible refine (cloneI_any CBA.out.ks.rd hk4).mono ?_); rintro e w3 ⟨v3, rfl, hs3, hf3, hb3⟩; obtain ⟨ao3, c3, rfl⟩ := hs3.rd.nil_iff; have hu3 : Upd (fun _ => False) w w3 := Upd.trans ((((Upd.refl _ _).alloc _).alloc _).drew) (Upd.of_below hb3); have hX : Hid (∀ W, Upd (fun _ => False) w3 W → W.heap[w.heap.size]? = some (.cells #[.map none] 331 (0, 0)) ∧ W.heap[w.heap.size + 1]? = some (.cells #[.slice none 0 0] 87 (0, 0))) := fun W hu => ⟨(hu.block _ (Nat.lt_of_lt_of_le (lt_of_block LBA0.out) hb3.size) (fun h => h)).trans ((hb3.block _ (lt_of_block LBA0.out)).trans LBA0.out), (hu.block _ (Nat.lt_of_lt_of_le (lt_of_block LBA1.out) hb3.size) (fun h => h)).trans ((hb3.block _ (lt_of_block LBA1.out)).trans LBA1.out)⟩; have z0 : w.heap.size < w3.heap.size := Nat.lt_of_lt_of_le (lt_of_block LBA0.out) hb3.size; have za0 := Nat.ne_of_lt z0; have zb0 := Nat.ne_of_gt z0; have z1 : w.heap.size + 1 < w3.heap.size := Nat.lt_of_lt_of_le (lt_of_block LBA1.out) hb3.size; have za1 := Nat.ne_of_lt z1; have zb1 := Nat.ne_of_gt z1; have bl3 : b < w3.heap.size := Nat.lt_of_lt_of_le hblt hu3.size; have nx0 : ¬ b = w3.heap.size := (by omega); have nx1 : ¬ w3.heap.size = b := (by omega); have nx2 : ¬ b = w3.heap.size + 1 := (by omega); have nx3 : ¬ w3.heap.size + 1 = b := (by omega); have k2 := (H.out _ hu3).c.2.2.1; have k3 := (H.out _ hu3).c.2.2.2.1; have F3 := Lib.hid (And.intro hs3 (And.intro hf3 (And.intro hb3 hu3))); clear hs3 hf3 hb3 hu3))
    | ((go_at_call 235; (with_reducible refine (sclone_any (w := w3) (H.out _ (F3.out.2.2.2.trans (Upd.refl _ _))).set).mono ?_); rintro e w4 ⟨rfl, hset4, hb4⟩; have hu34 : Upd (fun _ => False) w3 w4 := Upd.trans (Upd.refl _ _) (Upd.of_below hb4); obtain ⟨x0, x1⟩ := hX.out _ hu34; (try (have xa := cell_of_block x0 0)); (try (have xb := frozen_of_block x0 0)); (try (have xc := cell_of_block x1 0)); (try (have xd := frozen_of_block x1 0)); (try simp at xa); (try simp at xc); (try (have ya := lt_of_block x0)); (try (have yb := lt_of_block x1)); (try (have yc := Nat.ne_of_lt ya)); (try (have yd := Nat.ne_of_gt ya)); (try (have ye := Nat.ne_of_lt yb)); (try (have yf := Nat.ne_of_gt yb)); have X0 := Lib.hid x0; have X1 := Lib.hid x1; clear x0 x1; have M0 : Hid True := trivial; have M1 : Hid True := trivial; have bl4 : b < w4.heap.size := Nat.lt_of_lt_of_le (Nat.lt_of_lt_of_le hblt F3.out.2.2.2.size) hu34.size; have ny0 : ¬ b = w4.heap.size := (by omega); have ny1 : ¬ w4.heap.size = b := (by omega); have ny2 : ¬ b = w4.heap.size + 1 := (by omega); have ny3 : ¬ w4.heap.size + 1 = b := (by omega); have l2 := (H.out _ (F3.out.2.2.2.trans hu34)).c.2.2.1; have l3 := (H.out _ (F3.out.2.2.2.trans hu34)).c.2.2.2.1; have F4 := Lib.hid (And.intro hset4 (And.intro hb4 hu34)); clear hset4 hb4 hu34))
    | ((go_at_call 235; (with_reducible refine (sclone_any (w := (w3.alloc (.cells #[.slice none 0 0] 87))) (H.out _ (F3.out.2.2.2.trans ((Upd.refl _ _).alloc _))).set).mono ?_); rintro e w4 ⟨rfl, hset4, hb4⟩; have hu34 : Upd (fun _ => False) w3 w4 := Upd.trans ((Upd.refl _ _).alloc _) (Upd.of_below hb4); obtain ⟨x0, x1⟩ := hX.out _ hu34; (try (have xa := cell_of_block x0 0)); (try (have xb := frozen_of_block x0 0)); (try (have xc := cell_of_block x1 0)); (try (have xd := frozen_of_block x1 0)); (try simp at xa); (try simp at xc); (try (have ya := lt_of_block x0)); (try (have yb := lt_of_block x1)); (try (have yc := Nat.ne_of_lt ya)); (try (have yd := Nat.ne_of_gt ya)); (try (have ye := Nat.ne_of_lt yb)); (try (have yf := Nat.ne_of_gt yb)); have X0 := Lib.hid x0; have X1 := Lib.hid x1; clear x0 x1; have m0 : w4.heap[w3.heap.size]? = some (.cells #[.slice none 0 0] 87 (0, 0)) := (hb4.block _ (by simp only [World.size_alloc]; omega)).trans (heap_alloc_last w3 _ rfl); have n0 := cell_of_block m0 0; have o0 := frozen_of_block m0 0; simp at n0; have M0 := Lib.hid m0; have lt0 := lt_of_block m0; have na0 := Nat.ne_of_lt lt0; have nb0 := Nat.ne_of_gt lt0; clear m0; have M1 : Hid True := trivial; have bl4 : b < w4.heap.size := Nat.lt_of_lt_of_le (Nat.lt_of_lt_of_le hblt F3.out.2.2.2.size) hu34.size; have ny0 : ¬ b = w4.heap.size := (by omega); have ny1 : ¬ w4.heap.size = b := (by omega); have ny2 : ¬ b = w4.heap.size + 1 := (by omega); have ny3 : ¬ w4.heap.size + 1 = b := (by omega); have l2 := (H.out _ (F3.out.2.2.2.trans hu34)).c.2.2.1; have l3 := (H.out _ (F3.out.2.2.2.trans hu34)).c.2.2.2.1; have F4 := Lib.hid (And.intro hset4 (And.intro hb4 hu34)); clear hset4 hb4 hu34))
    | ((go_at_call 235; (with_reducible refine (sclone_any (w := (w3.alloc (.cells #[.map none] 331))) (H.out _ (F3.out.2.2.2.trans ((Upd.refl _ _).alloc _))).set).mono ?_); rintro e w4 ⟨rfl, hset4, hb4⟩; have hu34 : Upd (fun _ => False) w3 w4 := Upd.trans ((Upd.refl _ _).alloc _) (Upd.of_below hb4); obtain ⟨x0, x1⟩ := hX.out _ hu34; (try (have xa := cell_of_block x0 0)); (try (have xb := frozen_of_block x0 0)); (try (have xc := cell_of_block x1 0)); (try (have xd := frozen_of_block x1 0)); (try simp at xa); (try simp at xc); (try (have ya := lt_of_block x0)); (try (have yb := lt_of_block x1)); (try (have yc := Nat.ne_of_lt ya)); (try (have yd := Nat.ne_of_gt ya)); (try (have ye := Nat.ne_of_lt yb)); (try (have yf := Nat.ne_of_gt yb)); have X0 := Lib.hid x0; have X1 := Lib.hid x1; clear x0 x1; have m0 : w4.heap[w3.heap.size]? = some (.cells #[.map none] 331 (0, 0)) := (hb4.block _ (by simp only [World.size_alloc]; omega)).trans (heap_alloc_last w3 _ rfl); have n0 := cell_of_block m0 0; have o0 := frozen_of_block m0 0; simp at n0; have M0 := Lib.hid m0; have lt0 := lt_of_block m0; have na0 := Nat.ne_of_lt lt0; have nb0 := Nat.ne_of_gt lt0; clear m0; have M1 : Hid True := trivial; have bl4 : b < w4.heap.size := Nat.lt_of_lt_of_le (Nat.lt_of_lt_of_le hblt F3.out.2.2.2.size) hu34.size; have ny0 : ¬ b = w4.heap.size := (by omega); have ny1 : ¬ w4.heap.size = b := (by omega); have ny2 : ¬ b = w4.heap.size + 1 := (by omega); have ny3 : ¬ w4.heap.size + 1 = b := (by omega); have l2 := (H.out _ (F3.out.2.2.2.trans hu34)).c.2.2.1; have l3 := (H.out _ (F3.out.2.2.2.trans hu34)).c.2.2.2.1; have F4 := Lib.hid (And.intro hset4 (And.intro hb4 hu34)); clear hset4 hb4 hu34))
    | ((go_at_call 235; (with_reducible refine (sclone_any (w := ((w3.alloc (.cells #[.slice none 0 0] 87)).alloc (.cells #[.map none] 331))) (H.out _ (F3.out.2.2.2.trans (((Upd.refl _ _).alloc _).alloc _))).set).mono ?_); rintro e w4 ⟨rfl, hset4, hb4⟩; have hu34 : Upd (fun _ => False) w3 w4 := Upd.trans (((Upd.refl _ _).alloc _).alloc _) (Upd.of_below hb4); obtain ⟨x0, x1⟩ := hX.out _ hu34; (try (have xa := cell_of_block x0 0)); (try (have xb := frozen_of_block x0 0)); (try (have xc := cell_of_block x1 0)); (try (have xd := frozen_of_block x1 0)); (try simp at xa); (try simp at xc); (try (have ya := lt_of_block x0)); (try (have yb := lt_of_block x1)); (try (have yc := Nat.ne_of_lt ya)); (try (have yd := Nat.ne_of_gt ya)); (try (have ye := Nat.ne_of_lt yb)); (try (have yf := Nat.ne_of_gt yb)); have X0 := Lib.hid x0; have X1 := Lib.hid x1; clear x0 x1; have m0 : w4.heap[w3.heap.size]? = some (.cells #[.slice none 0 0] 87 (0, 0)) := (hb4.block _ (by simp only [World.size_alloc]; omega)).trans (((((Upd.refl (fun _ => False) (w3.alloc (.cells #[.slice none 0 0] 87))).alloc (.cells #[.map none] 331)).block w3.heap.size (by simp) (fun h => h)).trans (heap_alloc_last w3 _ rfl))); have n0 := cell_of_block m0 0; have o0 := frozen_of_block m0 0; simp at n0; have M0 := Lib.hid m0; have lt0 := lt_of_block m0; have na0 := Nat.ne_of_lt lt0; have nb0 := Nat.ne_of_gt lt0; clear m0; have m1 : w4.heap[w3.heap.size + 1]? = some (.cells #[.map none] 331 (0, 0)) := (hb4.block _ (by simp only [World.size_alloc]; omega)).trans (heap_alloc_last (w3.alloc _) _ (by simp)); have n1 := cell_of_block m1 0; have o1 := frozen_of_block m1 0; simp at n1; have M1 := Lib.hid m1; have lt1 := lt_of_block m1; have na1 := Nat.ne_of_lt lt1; have nb1 := Nat.ne_of_gt lt1; clear m1; have bl4 : b < w4.heap.size := Nat.lt_of_lt_of_le (Nat.lt_of_lt_of_le hblt F3.out.2.2.2.size) hu34.size; have ny0 : ¬ b = w4.heap.size := (by omega); have ny1 : ¬ w4.heap.size = b := (by omega); have ny2 : ¬ b = w4.heap.size + 1 := (by omega); have ny3 : ¬ w4.heap.size + 1 = b := (by omega); have l2 := (H.out _ (F3.out.2.2.2.trans hu34)).c.2.2.1; have l3 := (H.out _ (F3.out.2.2.2.trans hu34)).c.2.2.2.1; have F4 := Lib.hid (And.intro hset4 (And.intro hb4 hu34)); clear hset4 hb4 hu34))
    | ((go_at_call 235; (with_reducible refine (sclone_any (w := ((w3.alloc (.cells #[.map none] 331)).alloc (.cells #[.slice none 0 0] 87))) (H.out _ (F3.out.2.2.2.trans (((Upd.refl _ _).alloc _).alloc _))).set).mono ?_); rintro e w4 ⟨rfl, hset4, hb4⟩; have hu34 : Upd (fun _ => False) w3 w4 := Upd.trans (((Upd.refl _ _).alloc _).alloc _) (Upd.of_below hb4); obtain ⟨x0, x1⟩ := hX.out _ hu34; (try (have xa := cell_of_block x0 0)); (try (have xb := frozen_of_block x0 0)); (try (have xc := cell_of_block x1 0)); (try (have xd := frozen_of_block x1 0)); (try simp at xa); (try simp at xc); (try (have ya := lt_of_block x0)); (try (have yb := lt_of_block x1)); (try (have yc := Nat.ne_of_lt ya)); (try (have yd := Nat.ne_of_gt ya)); (try (have ye := Nat.ne_of_lt yb)); (try (have yf := Nat.ne_of_gt yb)); have X0 := Lib.hid x0; have X1 := Lib.hid x1; clear x0 x1; have m0 : w4.heap[w3.heap.size]? = some (.cells #[.map none] 331 (0, 0)) := (hb4.block _ (by simp only [World.size_alloc]; omega)).trans (((((Upd.refl (fun _ => False) (w3.alloc (.cells #[.map none] 331))).alloc (.cells #[.slice none 0 0] 87)).block w3.heap.size (by simp) (fun h => h)).trans (heap_alloc_last w3 _ rfl))); have n0 := cell_of_block m0 0; have o0 := frozen_of_block m0 0; simp at n0; have M0 := Lib.hid m0; have lt0 := lt_of_block m0; have na0 := Nat.ne_of_lt lt0; have nb0 := Nat.ne_of_gt lt0; clear m0; have m1 : w4.heap[w3.heap.size + 1]? = some (.cells #[.slice none 0 0] 87 (0, 0)) := (hb4.block _ (by simp only [World.size_alloc]; omega)).trans (heap_alloc_last (w3.alloc _) _ (by simp)); have n1 := cell_of_block m1 0; have o1 := frozen_of_block m1 0; simp at n1; have M1 := Lib.hid m1; have lt1 := lt_of_block m1; have na1 := Nat.ne_of_lt lt1; have nb1 := Nat.ne_of_gt lt1; clear m1; have bl4 : b < w4.heap.size := Nat.lt_of_lt_of_le (Nat.lt_of_lt_of_le hblt F3.out.2.2.2.size) hu34.size; have ny0 : ¬ b = w4.heap.size := (by omega); have ny1 : ¬ w4.heap.size = b := (by omega); have ny2 : ¬ b = w4.heap.size + 1 := (by omega); have ny3 : ¬ w4.heap.size + 1 = b := (by omega); have l2 := (H.out _ (F3.out.2.2.2.trans hu34)).c.2.2.1; have l3 := (H.out _ (F3.out.2.2.2.trans hu34)).c.2.2.2.1; have F4 := Lib.hid (And.intro hset4 (And.intro hb4 hu34)); clear hset4 hb4 hu34)))
  all_goals
    go_wp2
    go_ret
    have hz3 := F3.out.2.2.1.size
    have hz4 := F4.out.2.1.size
    have hz34 := F4.out.2.2.size
    have hm4 := F4.out.1.lt
    simp only [World.size_alloc, World.size_drew] at hz3 hz4 hm4
    have hvb : ∀ g, (Value.slice ao3 K.length c3).ownBlock = some g → g < w3.heap.size := fun g hg => F3.out.1.lt hg
    have hvf : ∀ g, (Value.slice ao3 K.length c3).ownBlock = some g → _ ≤ g := F3.out.2.1
    simp only [World.size_alloc, World.size_drew] at hvf
    refine all_fin rfl ?c1 ?c2 F3.out.1 F4.out.2.2 F4.out.1 ?u ?v ?m F3.out.2.2.2 ?B
    case u => (repeat (first | exact Upd.refl _ _ | refine Upd.alloc ?_ _ | refine Upd.setCell ?_ _ (fun _ => by simp) _))
    case B => exact ⟨by omega, by omega⟩
    case m => (try simp only [World.size_alloc]); exact ⟨by omega, by omega⟩
    case v => exact fun g hg => ⟨by have := hvb g hg; have := hvf g hg; omega, by have := hvb g hg; have := hvf g hg; omega⟩
    case c1 => with_reducible first | (first | exact cell_new (by simp) | exact cell_set_same2 (by omega) ⟨_, ‹_›⟩ | exact cell_set_same ⟨_, ‹_›⟩) | (refine (cell_set_ne ?_).trans ?_; omega; first | exact cell_new (by simp) | exact cell_set_same2 (by omega) ⟨_, ‹_›⟩ | exact cell_set_same ⟨_, ‹_›⟩) | (refine (cell_alloc_lt ?_).trans ?_; ((try simp only [World.size_alloc, World.size_setCell]); omega); first | exact cell_new (by simp) | exact cell_set_same2 (by omega) ⟨_, ‹_›⟩ | exact cell_set_same ⟨_, ‹_›⟩)
    case c2 => (try simp only [World.size_alloc]); with_reducible first | (first | exact cell_new (by simp) | exact cell_set_same2 (by omega) ⟨_, ‹_›⟩ | exact cell_set_same ⟨_, ‹_›⟩) | (refine (cell_set_ne ?_).trans ?_; omega; first | exact cell_new (by simp) | exact cell_set_same2 (by omega) ⟨_, ‹_›⟩ | exact cell_set_same ⟨_, ‹_›⟩) | (refine (cell_alloc_lt ?_).trans ?_; ((try simp only [World.size_alloc, World.size_setCell]); omega); first | exact cell_new (by simp) | exact cell_set_same2 (by omega) ⟨_, ‹_›⟩ | exact cell_set_same ⟨_, ‹_›⟩)
theorem kall_gives {S : Nat → Prop} {w : World} {b N most few : Nat} {K G : List Int} {A : Int → Bool} (h : Ck S w b N most few K A G) :
    Calls Tryz.prog 231 #[.pointer (some ⟨b, 0, none⟩)] w fun e w' => ∃ gf lb, e = .returned (.func (.func gf) #[] lb) ∧ GivesE enc7 w' gf lb (kaL K A) ∧ Below w.heap.size w w' := by
  obtain ⟨mb, vk, vg, h, -⟩ := h
  refine (kall_at h).mono ?_
  rintro e w1 ⟨Bs, Bm, v, m2, rfl, c1, c2, hs, ha, hB⟩
  refine ⟨_, _, rfl, ⟨enters_of Tryz.func300 (by kernel_rfl) rfl, fun n hn S hS w2 hw2 => ?_⟩, hB⟩
  intro l J Jx W hW hJ _ hY h0
  have hlt : ∀ {j : Nat}, j < w1.heap.size → ¬ S j := fun hj e => by have := hS _ e; omega
  have hU : Upd (fun _ => False) w1 w2 := Upd.of_below hw2
  have hU2 : Upd (fun _ => False) w1 W := hU.trans (Upd.of_below hW)
  rw [kaL_len] at hY
  exact ka_in n hn S l Bs Bm m2 N K A v (by have := h.kle; omega) h.good.kr (fun g hg => hlt (hs.lt hg)) (hlt (addr_of_cell c2).2) (hlt ha.lt) J Jx W.heap.size hJ hY W ((hU2.cellAt (addr_of_cell c1).2 (fun h => h)).trans c1) ((hU2.cellAt (addr_of_cell c2).2 (fun h => h)).trans c2)
    (hs.keep hU2 (fun _ _ h => h)) (ha.keep hU2 (fun h => h)) h0
attribute [local go_sem] Oper.semAt_some
def CaS.spareB (a : CaS) : Bool := a.K.any (cleanB a.ps)
theorem kaL_fst (K : List Int) (A : Int → Bool) : (kaL K A).map (·.1) = K := by
  simp [kaL, Function.comp_def]
def SpX (ps : List (Int × Bool)) (wz : World) (rb : Nat) (cc : Code) (pre : List It7) (W : World) : Prop :=
  cc = .ret ∧ (∃ x ∈ pre, cleanB ps x.1 = true) ∧ Boxed W rb 4 (.bool true) ∧ Upd (fun j => j = rb ∨ wz.heap.size ≤ j) wz W
set_option maxRecDepth 100000 in
set_option maxHeartbeats 1000000 in
theorem ca_spare {own : Nat → Nat} {w : World} {c : Nat} {n : CaN} {p : CaP} {a : CaS} (h : CaAt own w c n p a) :
    Calls Tryz.prog 163 #[ptr c] w fun e w' => e = .returned (.bool a.spareB) ∧ Below w.heap.size w w' := by
  obtain ⟨w1, hw1⟩ : ∃ w1, w1 = (w.alloc (.cells #[ptr c] 62)).alloc (.cells #[.bool false] 4) := ⟨_, rfl⟩
  have hu1 : Upd (fun _ => False) w w1 := by rw [hw1]; exact ((Upd.refl _ w).alloc _).alloc _
  have g0 : w1.heap[w.heap.size]? = some (.cells #[ptr c] 62 (0, 0)) := by rw [hw1]; exact (Below.heap_alloc _ _ _ (by simp)).trans (heap_alloc_last w _ rfl)
  have g1 : w1.heap[w.heap.size + 1]? = some (.cells #[.bool false] 4 (0, 0)) := by rw [hw1]; exact heap_alloc_last _ _ (by simp)
  have hz1 : w1.heap.size = w.heap.size + 2 := by rw [hw1]; simp
  have h1 := h.new hu1
  have hcl := h.clt
  obtain ⟨-, -, -, -, -, -, -, d7, -⟩ := h.cells
  have HA := Lib.hid (kall_gives h1.ck)
  have H1 := Lib.hid (And.intro h1 (And.intro hu1 (And.intro g0 g1)))
  clear h h1 hu1 g0 g1
  refine (callsIn_wide (n := 4)).1 ?_
  refine callsIn_of_wp_marks Tryz.func163 rfl trivial ?_ rfl
  simp only [Tryz.ntmps163, List.size_toArray, List.length_cons, List.length_nil, Nat.reduceAdd, Nat.reduceSub, Array.replicate_succ, Array.replicate_zero, List.push_toArray, List.append_toArray, List.nil_append, List.cons_append]
  refine wpIn_wide.2 ?_
  go_wp2_with fail
  rw [← hw1]
  clear hw1 d7
  refine HA.out.mono ?_
  rintro e w2 ⟨gf, lb, rfl, hg, hb2⟩
  have hz2 := hb2.size
  have HU2 : Hid (Upd (fun _ => False) w1 w2) := Upd.of_below hb2
  have HG := Lib.hid hg
  clear HA hg
  go_wp2_with fail
  refine (wpIn_wide (n := 4)).1 ?_
  refine' wpIn_rangeFunc_ownH rfl (by omega) (gf := gf) (lb := lb) rfl trivial HG.out.1
    (HG.out.2 3 (by omega) (fun j => w2.heap.size ≤ j) (fun j h => h) _ (Below.refl _ _)) supd_t (fun W l o o' hl => supd_b (M := w2.heap.size) (fun j h => h) W l o o' hl) (Below.refl _ _) (fun _ => rfl)
    (fun pre W => Below w2.heap.size w2 W ∧ ∀ x ∈ pre, cleanB a.ps x.1 = false)
    (SpX a.ps w2 (w.heap.size + 1))
    (fun pre X Y row hs hg hr => ⟨ownFrom_below (β := Unit) (Nat.le_refl _) (Nat.le_refl _) () X Y row hs.1 hg hr, hs.2⟩)
    (fun cc pre X Y row hs hg hr => ⟨hs.1, hs.2.1, (grownBy_keeps_cells hg (fun r e => (hr r e).2) hs.2.2.1 rfl).trans hs.2.2.1, upd_grown hs.2.2.2 hg (fun r e => .inr (hr r e).1)⟩)
    ⟨Below.refl _ _, fun x hx => by cases hx⟩
    (fun x a' _ => a' = (_ : It7 → Act) x)
    (fun x a' => fun s X Y row hs hg hr => hs)
    ?assign ?body ?done ?stop
  case assign =>
    rintro l' pre x W K ⟨hB, hn⟩ hK
    gi_wp2
    refine hK _ _ (KeepsFrom.refl _ _) (Upd.refl _ _) ⟨hB, hn⟩ ?_
    exact rfl
  case body =>
    rintro l' pre x a' W hl _ ⟨hB, hn⟩ rfl hlt
    have hu : Upd (fun _ => False) w1 W := HU2.out.trans (Upd.of_below hB)
    obtain ⟨h1, -, g0, g1⟩ := H1.out
    have hcb := ca_isclean (h1.new hu) x.1
    have g0' := hu.blockv g0
    have g1' := hu.blockv g1
    have c0 := cell_of_block g0' 0
    have HC := Lib.hid hcb
    have HB := Lib.hid (And.intro hB (And.intro hn g1'))
    clear h1 g0 g1 hcb g0' g1' hB hn hu
    gi_wp2_with fail
    refine ⟨trivial, ?_⟩
    refine (CallsIn.inRound l' (callsIn_wide.2 HC.out)).mono ?_
    rintro e W2 ⟨rfl, hb3⟩
    obtain ⟨hB, hn, g1'⟩ := HB.out
    have g2 := (hb3.block _ (lt_of_block g1')).trans g1'
    have c2 := cell_of_block g2 0
    have f2 := frozen_of_block g2 0
    have hB2 : Below w2.heap.size w2 W2 := hB.trans (hb3.mono hB.size)
    have hKO : KeepsOthers W W2 := ⟨hb3.size, fun k o hk ho => (hb3.block k (lt_of_block hk)).trans hk⟩
    have HN := Lib.hid hn
    have HB2 := Lib.hid (And.intro hB2 (And.intro hKO (And.intro g2 hb3)))
    clear hB hn g1' g2 hB2 hKO hb3 HC c0
    rcases hq : cleanB a.ps x.1 with _ | _
    · have HQ := Lib.hid hq
      clear hq
      gi_wp2
      obtain ⟨hB2, hKO, g2, hb3⟩ := HB2.out
      refine ⟨hKO.from _, Upd.of_below hb3, hB2, fun y hy => ?_⟩
      rcases List.mem_append.1 hy with hy | hy
      · exact HN.out y hy
      · simp at hy; subst hy; exact HQ.out
    · have HQ := Lib.hid hq
      clear hq
      gi_wp2
      obtain ⟨hB2, hKO, g2, hb3⟩ := HB2.out
      have hus := upd_setCell W2 (w.heap.size + 1) 0 (.bool true)
      refine ⟨(hKO.trans (keepsOthers_cells hus (fun j hj _ => ⟨_, _, _, hj ▸ g2⟩))).from _, rfl, ⟨x, by simp, HQ.out⟩, Boxed.set (.bool true) (show Boxed W2 (w.heap.size + 1) 4 (.bool false) from g2), ?_⟩
      exact (Upd.of_below hB2).trans (hus.mono (fun _ _ h => .inl h))
  case done =>
    rintro D ys W hD rfl ⟨hB, hn⟩ hK
    have hu : Upd (fun _ => False) w1 W := HU2.out.trans (Upd.of_below hB)
    have g1 := hu.blockv H1.out.2.2.2
    have c1 := cell_of_block g1 0
    have f1 := frozen_of_block g1 0
    have hsp : a.spareB = false := by
      unfold CaS.spareB
      rw [List.any_eq_false]
      intro k hk
      have hk' : k ∈ (kaL a.K a.A).map (·.1) := by rw [kaL_fst]; exact hk
      obtain ⟨x, hx, rfl⟩ := List.mem_map.1 hk'
      rw [hn x hx]; decide
    have HS := Lib.hid (And.intro hsp (And.intro hK (And.intro hu (And.intro g1 hD))))
    clear hsp hK hu g1 hn hB hD
    go_wp2
    obtain ⟨hsp, hK, hu, g1, hD⟩ := HS.out
    have hus := upd_setCell W (w.heap.size + 1) 0 (.bool false)
    have hDl := lt_of_block hK
    have hK2 : (W.setCell ⟨w.heap.size + 1, 0, none⟩ (.bool false)).heap[D]? = some (.deferred (some [])) := (hus.block D hDl (by omega)).trans hK
    have g2 := heap_setCell_same g1 0 (.bool false)
    have hpo := upd_put (W.setCell ⟨w.heap.size + 1, 0, none⟩ (.bool false)) D (.deferred none)
    have c3 := cell_of_block ((hpo.block _ (lt_of_block g2) (by omega)).trans g2) 0
    refine ⟨by simp, .inl ⟨_, _, rfl, run_takeDeferred hK2, ?_⟩⟩
    refine ⟨.bool false, by simp [results, Tryz.results163, go_sem, c3], by rw [hsp], ?_⟩
    have hX := (hu.mono (S' := fun j => w.heap.size ≤ j) (fun _ _ h => h.elim)).trans ((hus.mono (fun j _ e => by omega)).trans (hpo.mono (fun j _ e => by omega)))
    exact below_upd (Below.refl _ _) ((H1.out.2.1.mono (S' := fun j => w.heap.size ≤ j) (fun _ _ h => h.elim)).trans hX) (Nat.le_refl _) (fun k h => h)
  case stop =>
    rintro D cc pre W hD hsp ⟨rfl, ⟨x, hx, hq⟩, hb, hu⟩ hK
    have hsp2 : a.spareB = true := by
      unfold CaS.spareB
      rw [List.any_eq_true]
      refine ⟨x.1, ?_, hq⟩
      rw [← kaL_fst a.K a.A]
      exact List.mem_map.2 ⟨x, hsp.subset hx, rfl⟩
    have hX : Upd (fun j => w.heap.size ≤ j) w W := ((H1.out.2.1.trans HU2.out).mono (fun _ _ h => h.elim)).trans (hu.mono (fun j _ h => by omega))
    have hpo := upd_put W D (.deferred none)
    have c3 := cell_of_block ((hpo.block _ (lt_of_block hb) (by omega)).trans hb) 0
    have HS := Lib.hid (And.intro hsp2 (And.intro hK (And.intro hX (And.intro hpo c3))))
    clear hsp2 hK hX hpo c3 hb hu hsp hx hq
    gi_wp2
    obtain ⟨hsp2, hK, hX, hpo, c3⟩ := HS.out
    refine ⟨by simp, .inl ⟨_, _, rfl, run_takeDeferred hK, ?_⟩⟩
    refine ⟨.bool true, by simp [results, Tryz.results163, go_sem, c3], by rw [hsp2], ?_⟩
    exact below_upd (Below.refl _ _) (hX.trans (hpo.mono (fun j _ e => by omega))) (Nat.le_refl _) (fun k h => h)
end Go.Proofs.YtfhfbpmlnjdfoaaGreatDoor
