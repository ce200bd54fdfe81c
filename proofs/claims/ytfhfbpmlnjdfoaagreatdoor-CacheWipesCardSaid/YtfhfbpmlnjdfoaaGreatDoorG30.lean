/- lavaboref14.Past: Write, Maybe. lavaboref14.Past: Maybe, Commit. Blocks of 64 bytes are compared. A device's Copy. A device's Plan: fates behind what was planned. A cache's devices: Plan. -/
import Derived.Test.YtfhfbpmlnjdfoaaGreatDoorG29
import Derived.Test.YtfhfbpmlnjdfoaaGreatDoorG02
import Derived.Test.YtfhfbpmlnjdfoaaGreatDoorG01
import Derived.Stop.BytesEq
import Derived.Test.YtfhfbpmlnjdfoaaGreatDoorG03
import Derived.Test.YtfhfbpmlnjdfoaaGreatDoorG08
import Derived.Laws.EntriesVeiled
import Derived.Test.YtfhfbpmlnjdfoaaGreatDoorG11
namespace Go.Proofs.YtfhfbpmlnjdfoaaGreatDoor
open Go Go.RowKit
def PsOut (B : Nat → Prop) (w : World) (p N M : Nat) (v : Value) (e : Ending) (w' : World) : Prop :=
  e = .returned v ∧ ∃ vo xs, Pst (fun j => B j ∨ w.heap.size ≤ j) w' p N M vo xs ∧ Upd (fun j => B j ∨ w.heap.size ≤ j) w w'
theorem Pst.wide {B B' : Nat → Prop} {w : World} {p N M : Nat} {vo : Value} {xs : List Value} (h : Pst B w p N M vo xs) (hB : ∀ j, B j → B' j) : Pst B' w p N M vo xs :=
  { h with bp := hB _ h.bp, bo := fun g hg => ⟨hB g (h.bo g hg).1, (h.bo g hg).2⟩, bx := fun x hx g hg => ⟨hB g (h.bx x hx g hg).1, (h.bx x hx g hg).2⟩ }
set_option maxRecDepth 100000 in
set_option maxHeartbeats 1000000 in
theorem past_write {B : Nat → Prop} {w : World} {p N M : Nat} {vo : Value} {xs : List Value} (h : Pst B w p N M vo xs) (hM : M ≤ 100000) {i : Nat} (hi : i < N) (f : Int) (hf : 0 ≤ f ∧ f ≤ 255) :
    Calls Tryz.prog 92 #[.pointer (some ⟨p, 0, none⟩), .int .i64 (i : Int), .int .i64 f] w (PsOut B w p N (M + 1) (.tuple #[])) := by
  obtain ⟨g, off, cap, b, o, m, c, x, rfl, c1, c2, ⟨hm, -⟩, hx⟩ := h.look hi
  have c0 := cell_of_block h.str 0
  have hNm := h.o.le
  simp only [List.getElem?_toArray, List.getElem?_cons_zero] at c0
  have k1 : (i : Int) < (N : Int) := by omega
  have i0 : (0 : Int) ≤ (i : Int) := by omega
  have hix : i < xs.length := by rw [h.len]; exact hi
  obtain ⟨w1, hw1⟩ : ∃ w1, w1 = w.drew.alloc (.cells [Value.int .i64 f].toArray 3) := ⟨_, rfl⟩
  have u1 : Upd (fun _ => False) w w1 := by rw [hw1]; exact ((Upd.refl _ w).drew).alloc _
  have h1 := h.keep u1 (fun _ _ h => h)
  obtain ⟨L, l1, l2, l0, hs⟩ := h1.els _ (List.getElem_mem hix)
  have hxe : xs[i] = .slice (some ⟨b, o, none⟩) (m + 1) c := by rw [List.getElem?_eq_getElem hix] at hx; exact Option.some.inj hx
  have hrd : Rd w1 1 (.slice (some ⟨w.drew.heap.size, 0, none⟩) 1 1) 1 [Value.int .i64 f] := by rw [hw1]; exact Rd.fresh w.drew [Value.int .i64 f] 3 1 rfl (by unfold maxLen; omega)
  obtain ⟨ii, hii, hz0, hz1, hz2⟩ := info_parts infoI1
  obtain ⟨v', w3, hrun, hs3, hu3, hbf⟩ := run_append_sl 87 87 ii (.int .i64 0) 8 Tryz.underlying87 hii hz0 hz1 hz2 rfl (by decide) hs hrd (fun u hu => by rw [List.mem_singleton.1 hu]; rfl) (by unfold maxLen; omega) (by omega)
  have hel : PsEl w3 (M + 1) v' := by
    refine ⟨L ++ [f], by simp, by simp; omega, fun y hy => by rcases List.mem_append.1 hy with hy | hy; exact l0 y hy; rw [List.mem_singleton.1 hy]; exact hf, ?_⟩
    have e : (L ++ [f]).length = L.length + 1 := by simp
    rw [e, show ints (L ++ [f]) = ints L ++ [Value.int .i64 f] by simp [ints]]
    exact hs3
  obtain ⟨hP, hU⟩ := h1.put hix (Nat.le_succ M) hu3 hel hbf
  have hLm : L.length = m + 1 := by obtain ⟨ao, cc, e⟩ := hs.rd.nil_iff; rw [hxe] at e; injection e with _ e2 _; exact e2.symm
  obtain ⟨ao3, cap3, hv3⟩ := hs3.rd.nil_iff
  have hpn : p ≠ g := fun e => (h.bo g rfl).2 e.symm
  rw [hxe] at hrun hu3
  have d0 : w1.cell? ⟨p, 0, none⟩ = some (.slice (some ⟨g, off, none⟩) N cap) := u1.cellv c0 (fun h => h)
  have d1 : w1.cell? ⟨g, off + i, none⟩ = some (.slice (some ⟨b, o, none⟩) (m + 1) c) := u1.cellv c1 (fun h => h)
  have e0 : w3.cell? ⟨p, 0, none⟩ = some (.slice (some ⟨g, off, none⟩) N cap) := hu3.cellv d0 (fun e => (h.bx _ (List.getElem_mem hix) p (by rw [hxe]; exact e)).2.1 rfl)
  have e1 : w3.cell? ⟨g, off + i, none⟩ = some (.slice (some ⟨b, o, none⟩) (m + 1) c) := hu3.cellv d1 (fun e => (h.bx _ (List.getElem_mem hix) g (by rw [hxe]; exact e)).2.2 rfl)
  have z1 : w.drew.heap.size = w.heap.size := rfl
  have HR := Lib.hid (And.intro hP (And.intro hU (And.intro u1 hw1)))
  have f0 : (w3.setCell ⟨g, off + i, none⟩ v').cell? ⟨p, 0, none⟩ = some (.slice (some ⟨g, off, none⟩) N cap) := cell_keep_set e0 (fun e => hpn e.symm)
  have fz := (show w3.frozen? ⟨g, off + i, none⟩ = false by
    obtain ⟨hl, ⟨e, -⟩ | ⟨g', off', cap', cur, e, hg, -⟩⟩ := h1.o
    · cases e
    · cases e
      exact frozen_of_block ((hu3.block g (lt_of_block hg) (fun e => (h.bx _ (List.getElem_mem hix) g (by rw [hxe]; exact e)).2.2 rfl)).trans hg) _)
  subst hv3
  rw [hLm] at f0 HR hrun
  clear hP hU u1 h1 hs hs3 hu3 hbf hel hrd hii hz0 hz1 hz2 h hx hxe l1 l2 hm hpn hLm hw1
  go_enter Tryz.func92, Tryz.ntmps92
  refine wp_region_held_drew (S := fun W => W.cell? ⟨p, 0, none⟩ = some (.slice (some ⟨g, off, none⟩) N cap)) (by kernel_rfl) (by rw [World.cell?_drew]; exact c0) (fun hHeld => ?_)
  refine Wl.i [0, 1, 2, 3, 4, 5, 6, 7, 8, 9, 10, 12] ?_; iterate 12 refine Wl.t hHeld ?_
  refine Wl.o ?_
  have c1d : w.drew.cell? ⟨g, off + i, none⟩ = some (.slice (some ⟨b, o, none⟩) (m + 1) c) := by rw [World.cell?_drew]; exact c1
  refine wpAnyH_ready (rs := [11, 13]) (by kernel_rfl) (by simp) ?_
  refine AllReadyH.cons rfl (fun K hK => ?_) (AllReadyH.cons rfl (fun K hK => ?_) AllReadyH.nil)
  · go_simp
    refine hK.out _ _ hHeld (fun _ => ?_)
    clear hK K
    refine Wl.r 13 (fun K hK => ?_)
    go_simp
    show K _ (w.drew.alloc (.cells [Value.int .i64 f].toArray 3))
    rw [← HR.out.2.2.2]
    refine hK.out _ _ d0 (fun _ => ?_)
    clear hK K
    refine Wl.r 14 (fun K hK => ?_)
    refine step_append_run rfl _ _ _ rfl rfl rfl hrun ?_
    refine hK.out _ _ e0 (fun _ => ?_)
    clear hK K
    refine Wl.i [15] (Wl.t e0 (Wl.o ?_))
    refine Wl.r 16 (fun K hK => ?_)
    go_simp
    refine hK.out _ _ f0 (fun _ => ?_)
    clear hK K
    refine Wl.d ?_
    refine bodyPost_ret (results_none rfl _ _ _) rfl ?_
    obtain ⟨hP, hU, u1, -⟩ := HR.out
    have hw : ∀ j, (B j ∨ w1.heap.size ≤ j) → (B j ∨ w.heap.size ≤ j) := fun j hj => hj.imp (fun h => h) (fun h => Nat.le_trans u1.size h)
    exact ⟨rfl, _, _, hP.wide hw, (u1.mono (fun _ _ h => h.elim)).trans (hU.mono (fun j _ h => hw j h))⟩
  · go_simp
    show K _ (w.drew.alloc (.cells [Value.int .i64 f].toArray 3))
    rw [← HR.out.2.2.2]
    refine hK.out _ _ d0 (fun _ => ?_)
    clear hK K
    refine Wl.r 11 (fun K hK => ?_)
    go_simp
    refine hK.out _ _ d0 (fun _ => ?_)
    clear hK K
    refine Wl.r 14 (fun K hK => ?_)
    refine step_append_run rfl _ _ _ rfl rfl rfl hrun ?_
    refine hK.out _ _ e0 (fun _ => ?_)
    clear hK K
    refine Wl.i [15] (Wl.t e0 (Wl.o ?_))
    refine Wl.r 16 (fun K hK => ?_)
    go_simp
    refine hK.out _ _ f0 (fun _ => ?_)
    clear hK K
    refine Wl.d ?_
    refine bodyPost_ret (results_none rfl _ _ _) rfl ?_
    obtain ⟨hP, hU, u1, -⟩ := HR.out
    have hw : ∀ j, (B j ∨ w1.heap.size ≤ j) → (B j ∨ w.heap.size ≤ j) := fun j hj => hj.imp (fun h => h) (fun h => Nat.le_trans u1.size h)
    exact ⟨rfl, _, _, hP.wide hw, (u1.mono (fun _ _ h => h.elim)).trans (hU.mono (fun j _ h => hw j h))⟩
set_option maxRecDepth 100000 in
theorem Pst.app {B : Nat → Prop} {w : World} {p N M : Nat} {vo : Value} {xs : List Value} (h : Pst B w p N M vo xs) (hM : M ≤ 100000) {i : Nat} (hi : i < N) (news : List Int) (hn : news.length ≤ 100) (hb : ∀ x ∈ news, 0 ≤ x ∧ x ≤ 255) :
    ∃ g off cap b o m c ao3 cap3 w3, vo = .slice (some ⟨g, off, none⟩) N cap ∧ w.cell? ⟨p, 0, none⟩ = some (.slice (some ⟨g, off, none⟩) N cap) ∧ w.cell? ⟨g, off + i, none⟩ = some (.slice (some ⟨b, o, none⟩) (m + 1) c) ∧
      (Builtin.append_ #[87, 87] 87 #[.slice (some ⟨b, o, none⟩) (m + 1) c, .slice (some ⟨w.drew.heap.size, 0, none⟩) news.length news.length]).run Tryz.prog (w.drew.alloc (.cells (ints news).toArray 3)) = .ok (.slice ao3 (m + 1 + news.length) cap3) w3 ∧
      w3.cell? ⟨p, 0, none⟩ = some (.slice (some ⟨g, off, none⟩) N cap) ∧ w3.cell? ⟨g, off + i, none⟩ = some (.slice (some ⟨b, o, none⟩) (m + 1) c) ∧ w3.frozen? ⟨g, off + i, none⟩ = false ∧ p ≠ g ∧
      ∃ xs', Pst (fun j => B j ∨ w.heap.size ≤ j) (w3.setCell ⟨g, off + i, none⟩ (.slice ao3 (m + 1 + news.length) cap3)) p N (M + news.length) vo xs' ∧ Upd (fun j => B j ∨ w.heap.size ≤ j) w (w3.setCell ⟨g, off + i, none⟩ (.slice ao3 (m + 1 + news.length) cap3)) := by
  obtain ⟨g, off, cap, b, o, m, c, x, rfl, c1, c2, ⟨hm, -⟩, hx⟩ := h.look hi
  have c0 := cell_of_block h.str 0
  simp only [List.getElem?_toArray, List.getElem?_cons_zero] at c0
  have hix : i < xs.length := by rw [h.len]; exact hi
  obtain ⟨w1, hw1⟩ : ∃ w1, w1 = w.drew.alloc (.cells (ints news).toArray 3) := ⟨_, rfl⟩
  have u1 : Upd (fun _ => False) w w1 := by rw [hw1]; exact ((Upd.refl _ w).drew).alloc _
  have h1 := h.keep u1 (fun _ _ h => h)
  obtain ⟨L, l1, l2, l0, hs⟩ := h1.els _ (List.getElem_mem hix)
  have hxe : xs[i] = .slice (some ⟨b, o, none⟩) (m + 1) c := by rw [List.getElem?_eq_getElem hix] at hx; exact Option.some.inj hx
  have hrd : Rd w1 1 (.slice (some ⟨w.drew.heap.size, 0, none⟩) news.length news.length) news.length (ints news) := by rw [hw1]; exact Rd.fresh w.drew (ints news) 3 news.length (by simp [ints]) (by unfold maxLen; omega)
  obtain ⟨ii, hii, hz0, hz1, hz2⟩ := info_parts infoI1
  obtain ⟨v', w3, hrun, hs3, hu3, hbf⟩ := run_append_sl 87 87 ii (.int .i64 0) 8 Tryz.underlying87 hii hz0 hz1 hz2 rfl (by decide) hs hrd (fun u hu => by simp only [ints, List.mem_map] at hu; obtain ⟨a, -, rfl⟩ := hu; rfl) (by unfold maxLen; omega) (by omega)
  have hel : PsEl w3 (M + news.length) v' := by
    refine ⟨L ++ news, by simp; omega, by simp; omega, fun y hy => by rcases List.mem_append.1 hy with hy | hy; exact l0 y hy; exact hb y hy, ?_⟩
    have e : (L ++ news).length = L.length + news.length := by simp
    rw [e, show ints (L ++ news) = ints L ++ ints news by simp [ints]]
    exact hs3
  obtain ⟨hP, hU⟩ := h1.put hix (Nat.le_add_right M news.length) hu3 hel hbf
  have hLm : L.length = m + 1 := by obtain ⟨ao, cc, e⟩ := hs.rd.nil_iff; rw [hxe] at e; injection e with _ e2 _; exact e2.symm
  obtain ⟨ao3, cap3, hv3⟩ := hs3.rd.nil_iff
  subst hv3
  rw [hLm] at hrun hP hU
  rw [hxe] at hrun hu3
  have hw : ∀ j, (B j ∨ w1.heap.size ≤ j) → (B j ∨ w.heap.size ≤ j) := fun j hj => hj.imp (fun h => h) (fun h => Nat.le_trans u1.size h)
  refine ⟨g, off, cap, b, o, m, c, ao3, cap3, w3, rfl, c0, c1, by rw [← hw1]; exact hrun, ?_, ?_, ?_, fun e => (h.bo g rfl).2 e.symm, _, hP.wide hw, (u1.mono (fun _ _ h => h.elim)).trans (hU.mono (fun j _ h => hw j h))⟩
  · exact hu3.cellv (u1.cellv c0 (fun h => h)) (fun e => (h.bx _ (List.getElem_mem hix) p (by rw [hxe]; exact e)).2.1 rfl)
  · exact hu3.cellv (u1.cellv c1 (fun h => h)) (fun e => (h.bx _ (List.getElem_mem hix) g (by rw [hxe]; exact e)).2.2 rfl)
  · obtain ⟨hl, ⟨e, -⟩ | ⟨g', off', cap', cur, e, hg, -⟩⟩ := h1.o
    · cases e
    · cases e
      exact frozen_of_block ((hu3.block g (lt_of_block hg) (fun e => (h.bx _ (List.getElem_mem hix) g (by rw [hxe]; exact e)).2.2 rfl)).trans hg) _
set_option maxRecDepth 100000 in
set_option maxHeartbeats 1000000 in
theorem past_maybe {B : Nat → Prop} {w : World} {p N M : Nat} {vo : Value} {xs : List Value} (h : Pst B w p N M vo xs) (hM : M ≤ 100000) {i : Nat} (hi : i < N) (f : Int) (hf : 0 ≤ f ∧ f ≤ 255) :
    Calls Tryz.prog 93 #[.pointer (some ⟨p, 0, none⟩), .int .i64 (i : Int), .int .i64 f] w (PsOut B w p N (M + 2) (.tuple #[])) := by
  have HN := Lib.hid (And.intro (past_now h hM hi) h)
  have hNm := h.o.le
  have k1 : (i : Int) < (N : Int) := by omega
  have i0 : (0 : Int) ≤ (i : Int) := by omega
  clear h
  go_enter Tryz.func93, Tryz.ntmps93
  go_wp2_with fail
  refine HN.out.1.mono ?_
  rintro e w0 ⟨y, hy, rfl, hu0⟩
  obtain ⟨g, off, cap, b, o, m, c, ao3, cap3, w3, rfl, c0, c1, hrun, e0, e1, fz, hpg, xs', hP, hU⟩ := (HN.out.2.keep hu0 (fun _ _ h => h)).app hM hi [f, y] (by simp) (fun x hx => by simp only [List.mem_cons, List.not_mem_nil, or_false] at hx; rcases hx with rfl | rfl; exact hf; exact hy)
  obtain ⟨w1, hw1⟩ : ∃ w1, w1 = w0.drew.alloc (.cells [Value.int .i64 f, Value.int .i64 y].toArray 3) := ⟨_, rfl⟩
  have hrun' : (Builtin.append_ #[87, 87] 87 #[.slice (some ⟨b, o, none⟩) (m + 1) c, .slice (some ⟨w0.drew.heap.size, 0, none⟩) 2 2]).run Tryz.prog w1 = .ok (.slice ao3 (m + 1 + 2) cap3) w3 := by rw [hw1]; exact hrun
  have d0 : w1.cell? ⟨p, 0, none⟩ = some (.slice (some ⟨g, off, none⟩) N cap) := by rw [hw1]; exact cell_keep_alloc (by rw [World.cell?_drew]; exact c0) _
  have d1 : w1.cell? ⟨g, off + i, none⟩ = some (.slice (some ⟨b, o, none⟩) (m + 1) c) := by rw [hw1]; exact cell_keep_alloc (by rw [World.cell?_drew]; exact c1) _
  have f0 : (w3.setCell ⟨g, off + i, none⟩ (.slice ao3 (m + 1 + 2) cap3)).cell? ⟨p, 0, none⟩ = some (.slice (some ⟨g, off, none⟩) N cap) := cell_keep_set e0 (fun e => hpg e.symm)
  have c1d : w0.drew.cell? ⟨g, off + i, none⟩ = some (.slice (some ⟨b, o, none⟩) (m + 1) c) := by rw [World.cell?_drew]; exact c1
  have HR := Lib.hid (And.intro hP (And.intro hU (And.intro hu0 hw1)))
  clear hP hU hu0 hw1 hrun hpg HN
  go_wp2_with fail
  refine wp_region_held_drew (S := fun W => W.cell? ⟨p, 0, none⟩ = some (.slice (some ⟨g, off, none⟩) N cap)) (by kernel_rfl) (by rw [World.cell?_drew]; exact c0) (fun hHeld => ?_)
  refine Wl.i [0, 1, 2, 3, 4, 5, 6, 7, 8, 9, 10, 12, 13] ?_; iterate 13 refine Wl.t hHeld ?_
  refine Wl.o ?_
  refine wpAnyH_ready (rs := [11, 14]) (by kernel_rfl) (by simp) ?_
  refine AllReadyH.cons rfl (fun K hK => ?_) (AllReadyH.cons rfl (fun K hK => ?_) AllReadyH.nil)
  · go_simp
    refine hK.out _ _ hHeld (fun _ => ?_)
    clear hK K
    refine Wl.r 14 (fun K hK => ?_)
    go_simp
    show K _ (w0.drew.alloc (.cells [Value.int .i64 f, Value.int .i64 y].toArray 3))
    rw [← HR.out.2.2.2]
    refine hK.out _ _ d0 (fun _ => ?_)
    clear hK K
    refine Wl.r 15 (fun K hK => ?_)
    refine step_append_run rfl _ _ _ rfl rfl rfl hrun' ?_
    refine hK.out _ _ e0 (fun _ => ?_)
    clear hK K
    refine Wl.i [16] (Wl.t e0 (Wl.o ?_))
    refine Wl.r 17 (fun K hK => ?_)
    go_simp
    refine hK.out _ _ f0 (fun _ => ?_)
    clear hK K
    refine Wl.d ?_
    refine bodyPost_ret (results_none rfl _ _ _) rfl ?_
    obtain ⟨hP, hU, u0, -⟩ := HR.out
    have hw : ∀ j, (B j ∨ w0.heap.size ≤ j) → (B j ∨ w.heap.size ≤ j) := fun j hj => hj.imp (fun h => h) (fun h => Nat.le_trans u0.size h)
    exact ⟨rfl, _, _, hP.wide hw, (u0.mono (fun _ _ h => h.elim)).trans (hU.mono (fun j _ h => hw j h))⟩
  · go_simp
    show K _ (w0.drew.alloc (.cells [Value.int .i64 f, Value.int .i64 y].toArray 3))
    rw [← HR.out.2.2.2]
    refine hK.out _ _ d0 (fun _ => ?_)
    clear hK K
    refine Wl.r 11 (fun K hK => ?_)
    go_simp
    refine hK.out _ _ d0 (fun _ => ?_)
    clear hK K
    refine Wl.r 15 (fun K hK => ?_)
    refine step_append_run rfl _ _ _ rfl rfl rfl hrun' ?_
    refine hK.out _ _ e0 (fun _ => ?_)
    clear hK K
    refine Wl.i [16] (Wl.t e0 (Wl.o ?_))
    refine Wl.r 17 (fun K hK => ?_)
    go_simp
    refine hK.out _ _ f0 (fun _ => ?_)
    clear hK K
    refine Wl.d ?_
    refine bodyPost_ret (results_none rfl _ _ _) rfl ?_
    obtain ⟨hP, hU, u0, -⟩ := HR.out
    have hw : ∀ j, (B j ∨ w0.heap.size ≤ j) → (B j ∨ w.heap.size ≤ j) := fun j hj => hj.imp (fun h => h) (fun h => Nat.le_trans u0.size h)
    exact ⟨rfl, _, _, hP.wide hw, (u0.mono (fun _ _ h => h.elim)).trans (hU.mono (fun j _ h => hw j h))⟩
set_option maxRecDepth 100000 in
set_option maxHeartbeats 1000000 in
theorem past_commit {B : Nat → Prop} {w : World} {p N M : Nat} {vo : Value} {xs : List Value} (h : Pst B w p N M vo xs) (hM : M ≤ 100000) (hM1 : 1 ≤ M) :
    Calls Tryz.prog 94 #[.pointer (some ⟨p, 0, none⟩)] w (PsOut B w p N M (.tuple #[])) := by
  have HN := Lib.hid h
  have hNm := h.o.le
  obtain ⟨ao, cap, rfl⟩ := h.o.rd.nil_iff
  clear h
  go_enter Tryz.func94, Tryz.ntmps94
  go_wp2_with fail
  go_loopg [2] N (fun gk s2 wr => ∃ (i : Nat) (xs' : List Value), i + gk = N ∧ s2 = .int .i64 (i : Int) ∧ Pst (fun j => B j ∨ w.heap.size ≤ j) wr p N M (.slice ao N cap) xs' ∧ Upd (fun j => B j ∨ w.heap.size ≤ j) w wr)
  case atStart => exact ⟨0, xs, by omega, rfl, HN.out.wide (fun j h => .inl h), Upd.refl _ _⟩
  case round =>
    obtain ⟨i, xs', hi, rfl, hP, hU⟩ := hrel
    have c0 := cell_of_block hP.str 0
    simp only [List.getElem?_toArray, List.getElem?_cons_zero] at c0
    by_cases hlt : i < N
    · have k1 : (i : Int) < (N : Int) := by omega
      have i0 : (0 : Int) ≤ (i : Int) := by omega
      obtain ⟨g, off, cap', b, o, m, c, x, e, c1, -, -, hx⟩ := hP.look hlt
      cases e
      have HP := Lib.hid (And.intro hP hU)
      have hix : i < xs'.length := by rw [hP.len]; exact hlt
      clear hP hU
      go_wp2_with fail
      refine wp_region_held_drew (S := fun W => W.cell? ⟨p, 0, none⟩ = some (.slice (some ⟨g, off, none⟩) N cap)) (by kernel_rfl) (by rw [World.cell?_drew]; exact c0) (fun hHeld => ?_)
      refine Wl.i [0, 1, 2, 3, 4, 5, 6] ?_; iterate 7 refine Wl.t hHeld ?_
      refine Wl.o ?_
      refine Wl.r 7 (fun K hK => ?_)
      go_simp
      have ud : Upd (fun _ => False) wr wr.drew := (Upd.refl _ wr).drew
      refine (past_now (HP.out.1.keep ud (fun _ _ h => h)) hM hlt).mono ?_
      rintro e w0 ⟨y, hy, rfl, hu0⟩
      obtain ⟨w1, hw1⟩ : ∃ w1, w1 = w0.alloc (.cells #[.int .i64 y] 3) := ⟨_, rfl⟩
      have u1 : Upd (fun _ => False) w0 w1 := by rw [hw1]; exact (Upd.refl _ w0).alloc _
      have U1 := (ud.trans hu0).trans u1
      have z1 : wr.heap.size ≤ w0.heap.size := (ud.trans hu0).size
      have d0 := hu0.cellv hHeld (fun h => h)
      have d1 := u1.cellv d0 (fun h => h)
      have hP1 := HP.out.1.keep (ud.trans hu0) (fun _ _ h => h)
      have hel : PsEl w1 M (.slice (some ⟨w0.heap.size, 0, none⟩) 1 1) := by rw [hw1]; exact one_int w0 y hy M hM1
      obtain ⟨hP2, hU2⟩ := hP1.put hix (Nat.le_refl M) (u1.mono (fun _ _ h => h.elim)) hel (.inr ⟨w0.heap.size, rfl, Nat.le_refl _⟩)
      have hpg : p ≠ g := fun e => (hP1.bo g rfl).2 e.symm
      have f0 : (w1.setCell ⟨g, off + i, none⟩ (.slice (some ⟨w0.heap.size, 0, none⟩) 1 1)).cell? ⟨p, 0, none⟩ = some (.slice (some ⟨g, off, none⟩) N cap) := cell_keep_set d1 (fun e => hpg e.symm)
      have c1' : w1.cell? ⟨g, off + i, none⟩ = some (.slice (some ⟨b, o, none⟩) (m + 1) c) := U1.cellv c1 (fun h => h)
      have fz : w1.frozen? ⟨g, off + i, none⟩ = false := by
        obtain ⟨hl, ⟨e, -⟩ | ⟨g', off', cap', cur, e, hg, -⟩⟩ := (hP1.keep u1 (fun _ _ h => h)).o
        · cases e
        · cases e
          exact frozen_of_block hg _
      have H2 := Lib.hid (And.intro hP2 (And.intro hU2 (And.intro (ud.trans hu0) hw1)))
      refine hK.out _ _ d0 (fun _ => ?_)
      clear hK K hHeld ud hu0 u1 U1 hP1 hel hP2 hU2 hpg hw1
      refine Wl.r 8 (fun K hK => ?_)
      go_simp
      show K _ (w0.alloc (.cells #[.int .i64 y] 3))
      rw [← H2.out.2.2.2]
      refine hK.out _ _ d1 (fun _ => ?_)
      clear hK K
      refine Wl.i [9] (Wl.t d1 (Wl.o ?_))
      refine Wl.r 10 (fun K hK => ?_)
      go_simp
      refine hK.out _ _ f0 (fun _ => ?_)
      clear hK K
      refine Wl.d ?_
      clear c0 c1 d0 d1 c1' fz f0
      go_wp2_with fail
      go_roundg (gk - 1)
      case measure => omega
      case rel =>
        obtain ⟨hP2, hU2, u02, -⟩ := H2.out
        have hz := HP.out.2.size
        have ib : (i : Int) < 9223372036854775807 := by unfold maxLen at hNm; omega
        have hw : ∀ j, ((B j ∨ w.heap.size ≤ j) ∨ w0.heap.size ≤ j) → (B j ∨ w.heap.size ≤ j) := fun j hj => hj.elim (fun h => h) (fun h => .inr (by omega))
        have hwr : wrap64 ((i : Int) + 1) = (i : Int) + 1 := IntWalk.wrap64_in _ (by omega)
        exact ⟨i + 1, _, by omega, by rw [hwr]; simp, hP2.wide hw, (HP.out.2.trans (u02.mono (fun _ _ h => h.elim))).trans (hU2.mono (fun j _ h => hw j h))⟩
    · have k1 : ¬ ((i : Int) < (N : Int)) := by omega
      have HE := Lib.hid (And.intro hP hU)
      clear hP hU
      go_wp2_with fail
      refine bodyPost_ret (results_none rfl _ _ _) rfl ?_
      exact ⟨rfl, _, _, HE.out.1, HE.out.2⟩
theorem sizeU8 (w : World) : (sizeOf 5).run Tryz.prog w = .ok 1 w := by
  obtain ⟨i, hi, hs⟩ := Option.map_eq_some_iff.1 (show (Tryz.prog.info? 5).map (·.size) = some 1 by kernel_rfl)
  simp [sizeOf, typeInfo, hi, hs]
theorem run_eql_bk (x y : Bk) (hx : x.length = 64) (hy : y.length = 64) (w : World) : (binOp .eql 54 (.agg (bkC x).toArray) (.agg (bkC y).toArray)).run Tryz.prog w = .ok (.bool (x == y)) w :=
  run_eql_bytes w 54 5 64 Tryz.underlying54 Tryz.underlying5 sizeU8 x y hx hy
theorem run_neq_bk (x y : Bk) (hx : x.length = 64) (hy : y.length = 64) (w : World) : (binOp .neq 54 (.agg (bkC x).toArray) (.agg (bkC y).toArray)).run Tryz.prog w = .ok (.bool (!(x == y))) w := by
  have e : (Op.equalIn 10000 54 (.agg (bkC x).toArray) (.agg (bkC y).toArray)).run Tryz.prog w = .ok (x == y) w := run_equalIn_bytes w 9998 54 5 64 Tryz.underlying54 Tryz.underlying5 sizeU8 x y hx hy
  rw [run_neq_struct, e]
  rfl
theorem infoI3 : (Tryz.prog.info? 3).map (fun i => (i.zero.map (·.cells.size), i.size, i.bytes)) = some (some 1, 1, 8) := by kernel_rfl
theorem ints_oneD (P : List Int) : ∀ u ∈ ints P, u.oneCell' = true := by
  intro u hu
  simp only [ints, List.mem_map] at hu
  obtain ⟨x, -, rfl⟩ := hu
  rfl
set_option maxRecDepth 100000 in
set_option maxHeartbeats 1000000 in
theorem dplan {S : Nat → Prop} {w : World} {b : Nat} {F : List Bk} {O : List (Nat × Bk)} {P : List Int} (h : Dv S w b F O P) (hn : ∀ j, w.heap.size ≤ j → S j) {vk : Value} {l : List Int} (hk : Rd w 1 vk l.length (ints l))
    (hl : ∀ x ∈ l, 0 ≤ x ∧ x ≤ 2) (hP : P.length + l.length ≤ 65536) :
    Calls Tryz.prog 44 #[.pointer (some ⟨b, 0, none⟩), vk] w fun e w' => e = .returned (.int .i64 0) ∧ Dv S w' b F O (P ++ l) ∧ Upd S w w' := by
  obtain ⟨vf, vo, vp, h, hS⟩ := h
  obtain ⟨-, -, c2⟩ := h.c
  have z2 := h.fz 2
  obtain ⟨ap, cp, rfl⟩ := h.ps.rd.nil_iff
  obtain ⟨ak, ck, rfl⟩ := hk.nil_iff
  obtain ⟨i0, hi, hzz⟩ := Option.map_eq_some_iff.1 infoI3
  simp only [Prod.mk.injEq] at hzz
  obtain ⟨hz0, hz1, hz2⟩ := hzz
  obtain ⟨z0, hz, hzs⟩ := Option.map_eq_some_iff.1 hz0
  clear hz0
  have H := Lib.hid (And.intro h (And.intro hS (And.intro hn (And.intro hk (And.intro hl hP)))))
  have HI := Lib.hid (And.intro hi (And.intro hz1 (And.intro hz2 (And.intro hz hzs))))
  have hll : l.length ≤ 65536 := by omega
  clear h hS hn hk hl hP hi hz1 hz2 hz hzs
  go_enter Tryz.func44, Tryz.ntmps44
  go_wp2
  go_loopw [11] (fun i wr => ∃ k : Nat, k ≤ l.length ∧ i = .int .i64 k ∧ wr = w) (fun i _ => l.length - (intOf i).toNat)
  case atStart => exact ⟨0, Nat.zero_le _, rfl, rfl⟩
  case round =>
    obtain ⟨k, hk, rfl, rfl⟩ := hrel
    by_cases hlt : k < l.length
    · obtain ⟨blk, ofk, cpk, e1, -, hck⟩ := H.out.2.2.2.1.at (by omega)
      cases e1
      have hb := hck k (.int .i64 l[k]) (by simp [ints, List.getElem?_eq_getElem hlt])
      have hx := H.out.2.2.2.2.1 l[k] (List.getElem_mem hlt)
      generalize l[k] = x at hb hx
      obtain ⟨hx1, hx2⟩ := hx
      clear hck c2 z2
      go_wp2
      go_roundw
      case rel => exact ⟨k + 1, by omega, by go_num, trivial⟩
      case measure => simp [intOf]; omega
    · obtain rfl : k = l.length := by omega
      have hone := Lib.hid (ints_oneD l)
      have hps := Lib.hid H.out.1.ps
      go_wp2_with (first
        | (at_builtin; refine wpList_append_sl rfl _ _ 87 rfl i0 z0 8 Tryz.underlying87 HI.out.1 HI.out.2.2.2.1 HI.out.2.1 HI.out.2.2.1 HI.out.2.2.2.2 (by decide) rfl hps.out _ l.length (ints l) rfl H.out.2.2.2.1 hone.out (by unfold maxLen; have := H.out.2.2.2.2.2; omega) (by have := H.out.2.2.2.2.2; omega) ?_; intro v' w2 hs2 hu2 hb2; obtain ⟨a2, k2, rfl⟩ := hs2.rd.nil_iff; replace hu2 : Upd (ownS (.slice ap P.length cp)) wr w2 := hu2; replace hb2 : blockFrom wr (.slice ap P.length cp) (.slice a2 (P.length + l.length) k2) := hb2; have g2 := (hu2.block b (lt_of_block H.out.1.str) (fun h => H.out.1.pb h)).trans H.out.1.str; have c3 := cell_of_block g2 2; have z3 := frozen_of_block g2 2; have HA := Lib.hid (And.intro hs2 (And.intro hu2 (And.intro hb2 g2))); clear hs2 hu2 hb2 g2)
        | fail)
      go_ret
      obtain ⟨hs2, hu2, hb2, g2⟩ := HA.out
      obtain ⟨h, hS, hn, hk, hl, hP⟩ := H.out
      obtain ⟨u, hu⟩ : ∃ u : Value, u = .slice a2 (P.length + l.length) k2 := ⟨_, rfl⟩
      rw [← hu] at hs2 hb2 ⊢
      have hub : u.ownBlock ≠ some b := fun e => by
        rcases hb2 with h1 | ⟨g, h1, hle⟩
        · exact h.pb (by rw [← h1]; exact e)
        · rw [h1] at e; cases e; have := lt_of_block h.str; omega
      have hu3 : Upd (fun j => j = b) w2 (w2.setCell ⟨b, 2, none⟩ u) := upd_setCell _ _ _ _
      have hU : Upd S wr w2 := hu2.mono (fun j _ hj => hS j (.inr (.inr (.inr hj))))
      refine ⟨rfl, ⟨vf, vo, u, ?_, ?_⟩, hU.trans (hu3.mono (fun j _ e => e ▸ hS b (.inl rfl)))⟩
      · refine ⟨heap_setCell_same g2 2 u, (h.fs.keep hu2 (fun g h1 h2 => h.fp g h1 h2)).keep_ne hu3 h.fb, (h.os.keep hu2 (fun g h1 h2 => h.op g h1 h2)).keep_ne hu3 h.ob, ?_, ?_, h.fb, h.ob, hub, h.fo, (h.fp.symm.from hb2 (fun g hg => h.fs.lt hg)).symm, (h.op.symm.from hb2 (fun g hg => h.os.lt hg)).symm⟩
        · rw [List.length_append]
          have e : ints (P ++ l) = ints P ++ ints l := by simp [ints]
          rw [e]
          exact hs2.keep_ne hu3 hub
        · exact { h.good with pl := by rw [List.length_append]; exact hP }
      · rintro j (rfl | hj | hj | hj)
        · exact hS _ (.inl rfl)
        · exact hS _ (.inr (.inl hj))
        · exact hS _ (.inr (.inr (.inl hj)))
        · rcases hb2 with h1 | ⟨g, h1, hle⟩
          · exact hS _ (.inr (.inr (.inr (by rw [← h1]; exact hj))))
          · rw [h1] at hj; cases hj; exact hn _ hle
section
variable {own : Nat → Nat} {w : World} {c : Nat} {n : CaN} {p : CaP} {a : CaS}
theorem ca_back_plan (h : CaAt own w c n p a) {vk : Value} {l : List Int} (hk : Rd w 1 vk l.length (ints l)) (hl : ∀ x ∈ l, 0 ≤ x ∧ x ≤ 2) (hP : a.bP.length + l.length ≤ 65536) :
    Calls Tryz.prog 44 #[ptr p.back, vk] w (CaOut own w c n p { a with bP := a.bP ++ l } (.int .i64 0)) :=
  (dplan h.open3 (fun _ h => .inr h) hk hl hP).mono fun _ _ ⟨he, hd, hu⟩ => ⟨he, _, h.turn3 hu hd rfl, h.did3 hu⟩
theorem ca_ssd_plan (h : CaAt own w c n p a) {vk : Value} {l : List Int} (hk : Rd w 1 vk l.length (ints l)) (hl : ∀ x ∈ l, 0 ≤ x ∧ x ≤ 2) (hP : a.dP.length + l.length ≤ 65536) :
    Calls Tryz.prog 44 #[ptr p.ssd, vk] w (CaOut own w c n p { a with dP := a.dP ++ l } (.int .i64 0)) :=
  (dplan h.open2 (fun _ h => .inr h) hk hl hP).mono fun _ _ ⟨he, hd, hu⟩ => ⟨he, _, h.turn2 hu hd rfl, h.did2 hu⟩
end
end Go.Proofs.YtfhfbpmlnjdfoaaGreatDoor
