/- Pages: Write of a checkpoint's sectors. Pages: Save. The index: Copy. The iterator over the blocks of a span: its contract. All: which iterator it gives. -/
import Derived.Test.YtnadilfobmgebaaGreatDoorH15
import Derived.Test.YtnadilfobmgebaaGreatDoorH17
import Derived.Test.YtnadilfobmgebaaGreatDoorH13
import Derived.Shelf.SlMaps.Clone
import Derived.RangeFuncNested
import Derived.RangeFuncBound
import Derived.RangeFuncCalls
import Derived.RangeFuncLeaves
import Derived.RangeFuncBox
import Derived.Shelf.Abstract
import Derived.WalkKit
import Derived.OwnWalkIn
import Derived.TacticsInMore
import Derived.LoopNIn
import Derived.LoopIn
import Derived.BigRegionIn
import Derived.Shelf.RegionOpen
import Derived.Maps.AppendAt
namespace Go.Proofs.YtnadilfobmgebaaGreatDoor
open Go Go.RowKit Go.Shelf
attribute [local go_sem] Oper.semAt_some
theorem Dv.exact {S : Nat → Prop} {w : World} {b : Nat} {F : List Bk} {O : List (Nat × Bk)} {P : List Int} (h : Dv S w b F O P) : ∃ S0 : Nat → Prop, Dv S0 w b F O P ∧ (∀ j, S0 j → S j) ∧ ∀ j, S0 j → ∃ cs t z, w.heap[j]? = some (.cells cs t z) := by
  obtain ⟨vf, vo, vp, h, hs⟩ := h
  exact ⟨dvS b vf vo vp, ⟨vf, vo, vp, h, fun _ hj => hj⟩, hs, fun j hj => by obtain ⟨cs, t, hc⟩ := h.cells j hj; exact ⟨cs, t, _, hc⟩⟩
theorem ckO_len (base i : Nat) (B : List Bk) : (ckO base i B).length = i := by simp [ckO]
def PwOut (S : Nat → Prop) (w : World) (b : Nat) (F : List Bk) (O : List (Nat × Bk)) (e : Ending) (w' : World) : Prop := e = .returned (.int .i64 0) ∧ Dv S w' b F O [] ∧ Upd S w w'
set_option maxRecDepth 100000 in
set_option maxHeartbeats 4000000 in
theorem pwrite {S : Nat → Prop} {w : World} {b : Nat} {F : List Bk} {O : List (Nat × Bk)} (hd : Dv S w b F O []) (hn : ∀ j, w.heap.size ≤ j → S j) (base m seq : Nat) (lo : Option Addr) (n lc : Nat) (E : List Ent) (hEn : E.length = n) (hnm : needN n ≤ m) (hn1 : n ≤ 100000)
    (hbm : base + m ≤ F.length) (hO : O.length + m < 65536) (hbuild : ∀ W, Below w.heap.size w W → Calls Tryz.prog 227 #[.int .i64 (seq : Int), .slice lo n lc] W (BuildPost W seq E)) :
    Calls Tryz.prog 197 #[.pointer (some ⟨b, 0, none⟩), .int .i64 (base : Int), .int .i64 (m : Int), .int .i64 (seq : Int), .slice lo n lc] w (PwOut S w b F (O ++ ckO base m (pagesB seq E))) := by
  subst hEn
  have hm1 : 1 ≤ m := by unfold needN at hnm; omega
  have hfl := hd.good.fl
  have q1 : decide (m < needN E.length) = false := by simp; omega
  obtain ⟨w2, hw2⟩ : ∃ w2, w2 = (w.alloc (.cells #[.pointer (some ⟨b, 0, none⟩)] 29)).alloc (.cells #[.int .i64 0] 40) := ⟨_, rfl⟩
  have hu2 : Upd (fun _ => False) w w2 := by rw [hw2]; exact ((Upd.refl _ w).alloc _).alloc _
  have hd2 := hd.new hu2
  have hb2 : Below w.heap.size w w2 := Upd.below hu2
  have hz2 : w2.heap.size = w.heap.size + 2 := by rw [hw2]; simp
  have hg0 : w2.heap[w.heap.size]? = some (.cells #[.pointer (some ⟨b, 0, none⟩)] 29) := by
    rw [hw2]; exact (Below.heap_alloc _ _ _ (by simp)).trans (heap_alloc_last w _ rfl)
  have hg1 : w2.heap[w.heap.size + 1]? = some (.cells #[.int .i64 0] 40) := by
    rw [hw2]; exact heap_alloc_last _ _ (by simp)
  have H := Lib.hid (And.intro hd (And.intro hn (And.intro True.intro (And.intro hnm (And.intro hbuild (And.intro hu2 (And.intro hd2 (And.intro hb2 (And.intro hz2 (And.intro hg0 hg1))))))))))
  clear hd hn hnm hbuild hu2 hb2 hz2 hg0 hg1
  refine (callsIn_wide (n := 3)).1 ?_
  refine callsIn_of_wp_marks Tryz.func197 rfl trivial ?_ rfl
  simp only [Tryz.ntmps197, List.size_toArray, List.length_cons, List.length_nil, Nat.reduceAdd, Nat.reduceSub, Array.replicate_succ, Array.replicate_zero, List.push_toArray, List.append_toArray, List.nil_append, List.cons_append]
  gi_wp2_with (first
    | (refine ⟨trivial, ?_⟩; gi_at_call 226; rw [← hw2]; refine (callsIn_wide.2 (there1 hd2 base m hm1 hbm)).mono ?_; rintro e w' ⟨rfl, rfl⟩)
    | (refine ⟨trivial, ?_⟩; gi_at_call 56; refine (callsIn_wide.2 (need_nat E.length hn1 _)).mono ?_; rintro e w' ⟨rfl, rfl⟩)
    | fail)
  refine ⟨trivial, ?_⟩
  rw [← hw2]
  refine (callsIn_wide.2 (H.out.2.2.2.2.1 w2 H.out.2.2.2.2.2.2.2.1)).mono ?_
  rintro e w3 ⟨vB, rfl, hslB, hfB, hbB⟩
  obtain ⟨ao, cc, rfl⟩ := hslB.rd.nil_iff
  have hu23 : Upd (fun _ => False) w2 w3 := Upd.of_below hbB
  obtain ⟨w4, hw4⟩ : ∃ w4, w4 = w3.alloc (.cells #[.slice ao (needN E.length) cc] 132) := ⟨_, rfl⟩
  have hu34 : Upd (fun _ => False) w3 w4 := by rw [hw4]; exact (Upd.refl _ w3).alloc _
  have hg2 : w4.heap[w3.heap.size]? = some (.cells #[.slice ao (needN E.length) cc] 132) := by rw [hw4]; exact heap_alloc_last w3 _ rfl
  have hz4 : w4.heap.size = w3.heap.size + 1 := by rw [hw4]; simp
  have H3 := Lib.hid (And.intro hslB (And.intro hfB (And.intro hu23 (And.intro hu34 (And.intro hg2 hz4)))))
  clear hslB hfB hbB hu23 hu34 hg2 hz4 hw2 q1 hd2
  gi_wp2_with (first
    | (refine ⟨trivial, ?_⟩; gi_at_call 228; rw [← hw4]; refine (callsIn_wide.2 (sectors_any (base : Int) (m : Int) w4)).mono ?_; rintro e w5 ⟨rfl, hw5⟩)
    | fail)
  have hu45 : Upd (fun _ => False) w4 w5 := by rw [hw5]; exact ((Upd.refl _ w4).alloc _).alloc _
  have hz5 : w5.heap.size = w4.heap.size + 2 := by rw [hw5]; simp
  have hcb : w5.cell? ⟨w4.heap.size, 0, none⟩ = some (.int .i64 (base : Int)) := by
    rw [hw5]; exact (cell_of_block ((Below.heap_alloc _ _ _ (by simp)).trans (heap_alloc_last w4 _ rfl)) 0)
  have hcm : w5.cell? ⟨w4.heap.size + 1, 0, none⟩ = some (.int .i64 (m : Int)) := by
    rw [hw5]; exact (cell_of_block (heap_alloc_last _ _ (by simp)) 0)
  obtain ⟨hd, hn, -, hnm, hbuild, hu2, hd2, hb2, hz2, hg0, hg1⟩ := H.out
  obtain ⟨hslB, hfB, hu23, hu34, hg2, hz4⟩ := H3.out
  have hu25 : Upd (fun _ => False) w2 w5 := (hu23.trans hu34).trans hu45
  have hs3 := hu23.size
  obtain ⟨T, hT⟩ : ∃ T : Nat → Prop, T = fun j => (S j ∧ j < w.heap.size) ∨ w5.heap.size ≤ j := ⟨_, rfl⟩
  have hTn : ∀ j, w5.heap.size ≤ j → T j := fun j hj => by rw [hT]; exact .inr hj
  have hTo : ∀ j, w.heap.size ≤ j → j < w5.heap.size → ¬ T j := fun j h1 h2 h => by rw [hT] at h; rcases h with h | h <;> omega
  have hd5 : Dv T w5 b F O [] := ((hd.shrink (T := fun j => S j ∧ j < w.heap.size) (fun j h1 h2 => ⟨h1, h2⟩)).new (hu2.trans hu25)).wide (fun j h => by rw [hT]; exact .inl h)
  have hG0 := hu25.blockv hg0
  have hG1 := hu25.blockv hg1
  have hG2 := hu45.blockv hg2
  have hsl5 := hslB.keep (hu34.trans hu45) (fun _ _ h => h)
  have HU := Lib.hid (hu2.trans hu25)
  have H5 := Lib.hid (And.intro hd5 (And.intro hTn (And.intro hTo (And.intro hG0 (And.intro hG1 (And.intro hG2 (And.intro hsl5 hT)))))))
  have b64 := pagesTo_64 seq E (needN E.length)
  clear hd hn hnm hbuild hu2 hd2 hb2 hg0 hg1 hslB hu23 hu34 hu45 hg2 hu25 hd5 hG0 hG1 hG2 hsl5 hT
  rw [← hw4, ← hw5]
  rw [hz4] at hcb hcm
  clear hw4 hw5
  refine' wpIn_rangeFunc_ownF rfl (by omega) (gf := 243) (lb := #[.pointer (some ⟨w3.heap.size + 1 + 1, 0, none⟩), .pointer (some ⟨w3.heap.size + 1, 0, none⟩)]) rfl trivial (enters_of Tryz.func243 (by kernel_rfl) rfl)
    (sec_stops _ (by omega) T (w3.heap.size + 1 + 1) (w3.heap.size + 1) base m w5 (by omega) (by omega) (by omega) (by omega) (hTo _ (by omega) (by omega)) (hTo _ (by omega) (by omega)) hcm hcb) supd_t (fun W l o o' hl => supd_b (M := w5.heap.size) hTn W l o o' hl) (Below.refl _ _) (fun _ => rfl)
    (fun pre W => Dv T W b F (O ++ pre.map (fun x => ckW base (pagesB seq E) x.1)) [] ∧ Upd T w5 W)
    (fun _ _ _ => False)
    (fun pre X Y row hs hg hr => ⟨hs.1.grown hg (fun r e => (hr r e).2), upd_grown hs.2 hg (fun r e => hTn r (hr r e).1)⟩)
    (fun _ _ _ _ _ hs _ _ => hs)
    ⟨by simpa using H5.out.1, Upd.refl _ _⟩
    _ ?assign ?body ?done ?stop
  case assign =>
    intro l x W K hK
    gi_wp2
    exact hK
  case body =>
    rintro l pre ⟨i, hi⟩ W ⟨hv, hu⟩ hlt
    obtain ⟨-, -, -, hG0, hG1, hG2, hsl5, -⟩ := H5.out
    have hG0 := (hu.block _ (lt_of_block hG0) (hTo _ (by omega) (by omega))).trans hG0
    have hG2 := (hu.block _ (lt_of_block hG2) (hTo _ (by omega) (by omega))).trans hG2
    have hsl := hsl5.keep hu (fun j hj => hTo j (by have := hfB j hj; omega) (hsl5.lt hj))
    have c0 : W.cell? ⟨w.heap.size, 0, none⟩ = some (.pointer (some ⟨b, 0, none⟩)) := cell_of_block hG0 0
    have c2 : W.cell? ⟨w3.heap.size, 0, none⟩ = some (.slice ao (needN E.length) cc) := cell_of_block hG2 0
    have hl0 := lt_of_block hG0
    have hl2 := lt_of_block hG2
    obtain ⟨y, hy⟩ : ∃ y, y = (pagesB seq E).getD i zB := ⟨_, rfl⟩
    have hyl : (bkC y).length = 64 := by
      rw [bkC_len, hy]
      by_cases h : i < (pagesB seq E).length
      · rw [List.getD_eq_getElem?_getD, List.getElem?_eq_getElem h]; exact b64 _ (List.getElem_mem h)
      · rw [List.getD_eq_getElem?_getD, List.getElem?_eq_none (by omega)]; rfl
    have hy64 : Hid ((Tryz.prog.info? 23).map (·.size) = some (bkC y).length) := by show _ = _; rw [hyl]; exact sizeBk'
    obtain ⟨S0, h0, hs0, hcs0⟩ := hv.exact
    obtain ⟨W1, hW1⟩ : ∃ W1, W1 = W.alloc (.cells (bkC y).toArray 23) := ⟨_, rfl⟩
    have hu1 : Upd (fun _ => False) W W1 := by rw [hW1]; exact (Upd.refl _ W).alloc _
    have hg1 : W1.heap[W.heap.size]? = some (.cells (bkC y).toArray 23) := by rw [hW1]; exact heap_alloc_last W _ rfl
    have rA := range_of_block hg1
    have hz1 : W1.heap.size = W.heap.size + 1 := by rw [hW1]; simp
    have hwr := dwriteR (S := fun j => S0 j ∨ W1.heap.size ≤ j) ((h0.new hu1).wide (fun _ h => .inl h)) (fun _ h => .inr h) (base + i) (by omega) y (by rw [← bkC_len]; exact hyl) (by simp; omega)
    have HB := Lib.hid (And.intro hv (And.intro hu (And.intro hsl (And.intro hy (And.intro hyl (And.intro h0 (And.intro hs0 (And.intro hcs0 (And.intro hW1 (And.intro hu1 hz1))))))))))
    have c10 : W1.cell? ⟨w.heap.size, 0, none⟩ = some (.pointer (some ⟨b, 0, none⟩)) := hu1.cellv c0 (fun h => h)
    have HW := Lib.hid (And.intro hwr c10)
    clear hv hu hsl hG0 hG1 hG2 hsl5 hy hyl h0 hs0 hcs0 hu1 hg1 hwr hz1 c10
    clear hG0 hG2
    rw [hW1] at rA
    by_cases hlt2 : i < needN E.length
    · obtain ⟨g, off, cap, cur, e1, hg, hz, hc⟩ := HB.out.2.2.1.at (by omega)
      cases e1
      have hBl : (pagesB seq E).length = needN E.length := pagesTo_len _ _ _
      have hr := row_range (F := pagesB seq E) b64 hg hc (i := i) (by omega)
      have hyi : (pagesB seq E)[i]'(by omega) = y := by rw [HB.out.2.2.2.1, List.getD_eq_getElem?_getD, List.getElem?_eq_getElem (by omega)]; rfl
      rw [hyi] at hr
      have hr2 := World.rangeAt_alloc hr (.cells (bkC zB).toArray 23)
      clear hg hz hc hyi hr
      gi_wp2_with (first
        | (refine wpListIn_load_mid rfl _ _ rfl _ _ rfl _ _ hr2 Tryz.underlying23 rfl hy64.out ?_)
        | (refine wpListIn_load_mid rfl _ _ rfl _ _ rfl _ _ rA Tryz.underlying23 rfl hy64.out ?_)
        | (refine wpListIn_store_new rfl _ _ _ rfl _ _ _ rfl rfl (by rw [HB.out.2.2.2.2.1]; rfl) hy64.out (bkC_one y) ?_)
        | fail)
      refine ⟨trivial, ?_⟩
      rw [show ((base : Int) + (i : Int)) = ((base + i : Nat) : Int) by simp, ← hW1]
      clear hW1 rA c0 c2
      refine (CallsIn.inRound l (callsIn_wide.2 HW.out.1)).mono ?_
      rintro e W2 ⟨rfl, hd2, hu2⟩
      have HD := Lib.hid (And.intro hd2 hu2)
      clear hd2 hu2
      rw [show (writeR F (O ++ pre.map (fun x => ckW base (pagesB seq E) x.1)) [] (base + i) y).cd = 0 from rfl]
      gi_wp2
      obtain ⟨hv, hu, hsl, hy, hyl, h0, hs0, hcs0, hW1, hu1, hz1⟩ := HB.out
      obtain ⟨hd2, hu2⟩ := HD.out
      have hsz := hu.size
      have hK1 : KeepsOthers W W1 := by rw [hW1]; exact KeepsOthers.alloc W _
      have hT2 : Upd T W W2 := (hu1.mono (fun _ _ h => h.elim)).trans (hu2.mono (fun j _ hj => hj.elim (fun h => hs0 j h) (fun h => hTn j (by omega))))
      refine ⟨hK1.trans (keepsOthers_cells hu2 (fun j hj hl => ?_)), hT2, ?_, hu.trans hT2⟩
      · rcases hj with hj | hj
        · obtain ⟨cs, t, z, hc⟩ := hcs0 j hj
          exact ⟨cs, t, z, hu1.blockv hc⟩
        · omega
      · have := hd2.wide (T := T) (fun j hj => hj.elim (fun h => hs0 j h) (fun h => hTn j (by omega)))
        rw [List.map_append, ← List.append_assoc]
        show Dv T W2 b F (_ ++ [ckW base (pagesB seq E) i]) []
        rw [show ckW base (pagesB seq E) i = (base + i, y) by rw [hy]; rfl]
        exact this
    · have hyz : y = zB := by
        have hBl : (pagesB seq E).length = needN E.length := pagesTo_len _ _ _
        rw [HB.out.2.2.2.1, List.getD_eq_getElem?_getD, List.getElem?_eq_none (by omega)]; rfl
      gi_wp2_with fail
      rw [zlit, ← hyz]
      clear hyz
      refine wpIn_load_mid _ _ rfl _ _ rfl _ _ rA Tryz.underlying23 rfl hy64.out ?_
      gi_wp2_with fail
      refine ⟨trivial, ?_⟩
      rw [show ((base : Int) + (i : Int)) = ((base + i : Nat) : Int) by simp, ← hW1]
      clear hW1 rA c0 c2
      refine (CallsIn.inRound l (callsIn_wide.2 HW.out.1)).mono ?_
      rintro e W2 ⟨rfl, hd2, hu2⟩
      have HD := Lib.hid (And.intro hd2 hu2)
      clear hd2 hu2
      rw [show (writeR F (O ++ pre.map (fun x => ckW base (pagesB seq E) x.1)) [] (base + i) y).cd = 0 from rfl]
      gi_wp2
      obtain ⟨hv, hu, hsl, hy, hyl, h0, hs0, hcs0, hW1, hu1, hz1⟩ := HB.out
      obtain ⟨hd2, hu2⟩ := HD.out
      have hsz := hu.size
      have hK1 : KeepsOthers W W1 := by rw [hW1]; exact KeepsOthers.alloc W _
      have hT2 : Upd T W W2 := (hu1.mono (fun _ _ h => h.elim)).trans (hu2.mono (fun j _ hj => hj.elim (fun h => hs0 j h) (fun h => hTn j (by omega))))
      refine ⟨hK1.trans (keepsOthers_cells hu2 (fun j hj hl => ?_)), hT2, ?_, hu.trans hT2⟩
      · rcases hj with hj | hj
        · obtain ⟨cs, t, z, hc⟩ := hcs0 j hj
          exact ⟨cs, t, z, hu1.blockv hc⟩
        · omega
      · have := hd2.wide (T := T) (fun j hj => hj.elim (fun h => hs0 j h) (fun h => hTn j (by omega)))
        rw [List.map_append, ← List.append_assoc]
        show Dv T W2 b F (_ ++ [ckW base (pagesB seq E) i]) []
        rw [show ckW base (pagesB seq E) i = (base + i, y) by rw [hy]; rfl]
        exact this
  case done =>
    rintro D ys W hD hys ⟨hv, hu⟩ hK
    obtain ⟨-, -, -, -, hG1, -, -, hT⟩ := H5.out
    have hG1 := (hu.block _ (lt_of_block hG1) (hTo _ (by omega) (by omega))).trans hG1
    have c1 := cell_of_block hG1 0
    have f1 := frozen_of_block hG1 0
    have hyO : (ckO base m (pagesB seq E)) = ys.map (fun x => ckW base (pagesB seq E) x.1) := by
      rw [ckO, ← hys, List.map_map]; rfl
    have HV := Lib.hid (And.intro hv (And.intro hu (And.intro hyO (And.intro hK (And.intro hG1 hT)))))
    have hl1 := lt_of_block hG1
    clear hv hu hyO hG1 hT
    gi_wp2
    obtain ⟨hv, hu, hyO, hK, hG1, hT⟩ := HV.out
    have hus := upd_setCell W (w.heap.size + 1) 0 (.int .i64 0)
    have hK2 : (W.setCell ⟨w.heap.size + 1, 0, none⟩ (.int .i64 0)).heap[D]? = some (.deferred (some [])) := (hus.block D (lt_of_block hK) (by omega)).trans hK
    have hG2 := heap_setCell_same hG1 0 (.int .i64 0)
    refine ⟨by simp, .inl ⟨_, _, rfl, run_takeDeferred hK2, ?_⟩⟩
    have hW := supd_b (S := fun j => w5.heap.size ≤ j) (M := w5.heap.size) (fun j h => h) (W.setCell ⟨w.heap.size + 1, 0, none⟩ (.int .i64 0)) D _ (.deferred none) hD hK2 rfl rfl
    have hG3 := (hW.block _ (by simpa using hl1) (by omega)).trans hG2
    have c3 := cell_of_block hG3 0
    refine ⟨.int .i64 0, by simp [results, Tryz.results197, go_sem, c3], rfl, ?_, ?_⟩
    · have h1 := hv.keep hus (fun j hj e => hTo j (by omega) (by omega) hj)
      have h2 := h1.grown (grownBy_putObj' (W.setCell ⟨w.heap.size + 1, 0, none⟩ (.int .i64 0)) D (.deferred none)) (fun r e => by cases e; exact ⟨_, hK2, rfl⟩)
      rw [hyO]
      exact h2.wide (fun j hj => by
        rw [hT] at hj
        rcases hj with hj | hj
        · exact hj.1
        · exact H.out.2.1 j (by have := HU.out.size; omega))
    · have hX : Upd (fun j => T j ∨ j = w.heap.size + 1 ∨ w5.heap.size ≤ j) w5 ((W.setCell ⟨w.heap.size + 1, 0, none⟩ (.int .i64 0)).putObj D (.deferred none)) :=
        ((hu.mono (fun _ _ h => .inl h)).trans (hus.mono (fun _ _ h => .inr (.inl h)))).trans (hW.mono (fun _ _ h => .inr (.inr h)))
      refine (HU.out.mono (fun _ _ h => h.elim)).new hX (fun i hi hs => ?_)
      have := HU.out.size
      rcases hs with hs | hs | hs
      · rw [hT] at hs
        rcases hs with hs | hs
        · exact hs.1
        · omega
      · omega
      · omega
  case stop =>
    rintro D c pre W _ _ h _
    exact h.elim
end Go.Proofs.YtnadilfobmgebaaGreatDoor
namespace Go.Proofs.YtnadilfobmgebaaGreatDoor
open Go Go.RowKit
def SaveOut (S : Nat → Prop) (w : World) (b : Nat) (F : List Bk) (O : List (Nat × Bk)) (e : Ending) (w' : World) : Prop := e = .returned (.int .i64 0) ∧ Dv S w' b (flushF F O) [] [] ∧ Upd S w w'
theorem dflush_go {S : Nat → Prop} {w : World} {b : Nat} {F : List Bk} {O : List (Nat × Bk)} (h : Dv S w b F O []) (hn : ∀ j, w.heap.size ≤ j → S j) : Calls Tryz.prog 72 #[.pointer (some ⟨b, 0, none⟩)] w (SaveOut S w b F O) :=
  (dflushR h hn).mono fun _ _ h => h
set_option maxHeartbeats 1000000 in
theorem psave {S : Nat → Prop} {w : World} {b : Nat} {F : List Bk} {O : List (Nat × Bk)} (hd : Dv S w b F O []) (hn : ∀ j, w.heap.size ≤ j → S j) (base m seq wh : Nat) (hwh : wh ≤ 1) (lo : Option Addr) (n lc : Nat) (E : List Ent) (hEn : E.length = n) (hnm : needN n ≤ m) (hn1 : n ≤ 100000)
    (hbm : base + m + m ≤ F.length) (hO : O.length + m < 65536) (hbuild : ∀ W, Below w.heap.size w W → Calls Tryz.prog 227 #[.int .i64 (seq : Int), .slice lo n lc] W (BuildPost W seq E)) :
    Calls Tryz.prog 158 #[.pointer (some ⟨b, 0, none⟩), .int .i64 (base : Int), .int .i64 (m : Int), .int .i64 (wh : Int), .int .i64 (seq : Int), .slice lo n lc] w (SaveOut S w b F (O ++ ckO (base + wh * m) m (pagesB seq E))) := by
  have hfl := hd.good.fl
  have HW := Lib.hid (pwrite hd hn (base + wh * m) m seq lo n lc E hEn hnm hn1 (by rcases (show wh = 0 ∨ wh = 1 by omega) with rfl | rfl <;> omega) hO hbuild)
  have HH := Lib.hid hn
  clear hd hn hEn hnm hn1 hO hbuild
  rcases (show wh = 0 ∨ wh = 1 by omega) with rfl | rfl
  · simp only [Nat.zero_mul, Nat.add_zero, Int.natCast_zero] at *
    go_enter Tryz.func158, Tryz.ntmps158
    go_wp2_with fail
    refine HW.out.mono ?_
    rintro e w2 ⟨rfl, hd2, hu2⟩
    have HF := Lib.hid (And.intro (dflush_go hd2 (fun j hj => HH.out j (by have := hu2.size; omega))) hu2)
    clear hd2 hu2
    go_wp2_with fail
    refine HF.out.1.mono ?_
    rintro e w3 ⟨rfl, hd3, hu3⟩
    have HE := Lib.hid (And.intro hd3 hu3)
    clear hd3 hu3
    go_wp2
    go_ret
    exact ⟨rfl, HE.out.1, HF.out.2.trans HE.out.2⟩
  · simp only [Nat.one_mul, Int.natCast_one] at *
    have e1 : ((base : Int) + (m : Int)) = ((base + m : Nat) : Int) := by simp
    rw [← e1] at HW
    clear e1
    go_enter Tryz.func158, Tryz.ntmps158
    go_wp2_with fail
    refine HW.out.mono ?_
    rintro e w2 ⟨rfl, hd2, hu2⟩
    have HF := Lib.hid (And.intro (dflush_go hd2 (fun j hj => HH.out j (by have := hu2.size; omega))) hu2)
    clear hd2 hu2
    go_wp2_with fail
    refine HF.out.1.mono ?_
    rintro e w3 ⟨rfl, hd3, hu3⟩
    have HE := Lib.hid (And.intro hd3 hu3)
    clear hd3 hu3
    go_wp2
    go_ret
    exact ⟨rfl, HE.out.1, HF.out.2.trans HE.out.2⟩
theorem infoPl : (Tryz.prog.info? 108).map (fun i => (i.zero, i.size, i.bytes)) = some (some (.agg #[.int .i64 0, .bool false]), 2, 16) := by kernel_rfl
set_option maxRecDepth 100000 in
theorem cloneP_any {w : World} {v : Value} {ps : List (Int × Bool)} (h : Rd w 2 v ps.length (plC ps)) (hle : ps.length ≤ 4096) (hpos : 0 < ps.length) :
    Calls Tryz.prog 195 #[v] w fun e w' => ∃ v', e = .returned v' ∧ Sl w' 108 2 v' ps.length (plC ps) ∧ From w.heap.size v' ∧ Below w.heap.size w w' := by
  obtain ⟨i0, hi, hz0, hz1, hz2⟩ := info_parts infoPl
  have H := Lib.hid h
  obtain ⟨hl, hm, ao, c, rfl, h0, _⟩ := h
  have q34 := fun (w : World) (a : Option Addr) (n c : Nat) => Lib.run_eql_slice_nil (P := Tryz.prog) w 227 108 a n c 0 0 Tryz.underlying227
  cases ao with
  | none =>
    have hn := h0 rfl
    omega
  | some a =>
    clear h0 hl
    have hs0 : Sl (w.alloc (.cells #[] 108)) 108 2 (.slice (some ⟨w.heap.size, 0, none⟩) 0 0) 0 [] :=
      ⟨by simp, .inr ⟨w.heap.size, 0, 0, #[], rfl, heap_alloc_last _ _ rfl, by simp, by simp [maxLen], by simp, by simp⟩⟩
    have HR : Hid (Rd (w.alloc (.cells #[] 108)) 2 (.slice (some a) ps.length c) ps.length (plC ps)) := H.out.keep ((Upd.refl (fun _ => False) _).alloc _) (fun _ _ h => h)
    have hone : ∀ u ∈ plC ps, u.oneCell' = true := by intro u hu; simp only [plC, List.mem_flatMap] at hu; obtain ⟨p, _, hp⟩ := hu; simp at hp; rcases hp with rfl | rfl <;> simp [Value.oneCell']
    go_enter Tryz.func195, Tryz.ntmps195
    go_wp2_with (at_builtin; refine wpList_append_sl rfl _ _ 227 rfl i0 (.agg #[.int .i64 0, .bool false]) 16 Tryz.underlying227 hi hz0 hz1 hz2 rfl (by decide) rfl hs0 _ ps.length (plC ps) rfl HR.out hone (by unfold maxLen; omega) (by omega) ?_)
    intro v' w2 hs2 hu2 hb2
    go_wp2
    go_ret
    refine ⟨_, rfl, by simpa using hs2, ?_, ?_⟩
    · exact hb2.ge (by simp) (by intro g hg; simp [Value.ownBlock] at hg; omega)
    · refine below_upd ((Below.refl _ _).alloc (Nat.le_refl _) _) hu2 (Nat.le_refl _) (by intro k hk; simp [ownS, Value.ownBlock] at hk; omega)
attribute [local go_sem] Oper.semAt_some
abbrev It9 := Nat × (Int × Bool)
abbrev enc9 (x : It9) : Array Value := #[.int .i64 (x.1 : Int), placeV x.2.1 x.2.2]
def visAt (qs : List (Int × Bool)) (fr k : Nat) : List It9 := if qs[k]?.getD (-1, false) = (-1, false) then [] else [(fr + k, qs[k]?.getD (-1, false))]
def visTo (qs : List (Int × Bool)) (fr : Nat) : Nat → List It9
  | 0 => []
  | k + 1 => visTo qs fr k ++ visAt qs fr k
abbrev vis (qs : List (Int × Bool)) (fr : Nat) : List It9 := visTo qs fr qs.length
theorem visTo_hit {qs : List (Int × Bool)} {fr k : Nat} (hk : k < qs.length) (h : qs[k] ≠ (-1, false)) : visTo qs fr (k + 1) = visTo qs fr k ++ [(fr + k, qs[k])] := by
  have e : qs[k]?.getD (-1, false) = qs[k] := by simp [hk]
  simp [visTo, visAt, hk, h]
theorem visTo_miss {qs : List (Int × Bool)} {fr k : Nat} (hk : k < qs.length) (h : qs[k] = (-1, false)) : visTo qs fr (k + 1) = visTo qs fr k := by
  simp [visTo, visAt, hk, h]
theorem visAt_len (qs : List (Int × Bool)) (fr k : Nat) : (visAt qs fr k).length ≤ 1 := by unfold visAt; split <;> simp
theorem visTo_len (qs : List (Int × Bool)) (fr k : Nat) : (visTo qs fr k).length ≤ k := by
  induction k with
  | zero => simp [visTo]
  | succ k ih => have := visAt_len qs fr k; simp only [visTo, List.length_append]; omega
theorem visTo_prefix (qs : List (Int × Bool)) (fr : Nat) {k m : Nat} (h : k ≤ m) : visTo qs fr k <+: visTo qs fr m := by
  induction m with
  | zero => obtain rfl : k = 0 := by omega
            exact List.prefix_rfl
  | succ m ih =>
    by_cases hk : k = m + 1
    · subst hk; exact List.prefix_rfl
    · exact (ih (by omega)).trans (List.prefix_append _ _)
theorem visTo_strict (qs : List (Int × Bool)) (fr : Nat) {k : Nat} (hk : k < qs.length) (hb : qs[k] ≠ (-1, false)) : (visTo qs fr k).length < (visTo qs fr qs.length).length := by
  have h1 := (visTo_prefix qs fr (show k + 1 ≤ qs.length by omega)).length_le
  rw [visTo_hit hk hb] at h1
  simp at h1; omega
theorem abides_new {β : Type} {B : Nat} {J : β → World → Prop} (hJ : AbidesFrom B J) {s : β} {W W' : World} (h : J s W) (hu : Upd (fun _ => False) W W') : J s W' :=
  hJ s W W' none h ⟨hu.os, hu.tape, hu.output, hu.size, fun k hk _ => hu.block k hk (fun h => h)⟩ (fun r e => by cases e)
set_option maxRecDepth 100000 in
set_option maxHeartbeats 2000000 in
theorem it_in (n : Nat) (hn : 2 ≤ n) (S : Nat → Prop) (l Bs Bp b off cap : Nat) (qs : List (Int × Bool)) (fr : Nat)
    (hle : qs.length ≤ 4096) (hfr : fr ≤ 4096) (hgood : ∀ k (h : k < qs.length), qs[k] = (-1, false) ∨ 0 ≤ qs[k].1) (hb : ¬ S b) (hBp : ¬ S Bp) (J Jx : List It9 → World → Prop) (B0 : Nat) (hJ : AbidesFrom B0 J)
    (hY : ∀ pre (x : It9) W, J pre W → pre.length < (vis qs fr).length → YieldAt Fence.wide (n - 1) Tryz.prog l (enc9 x) W fun e W' =>
      (e = .returned (.bool true) ∧ J (pre ++ [x]) W' ∧ Upd S W W') ∨ (e = .returned (.bool false) ∧ Jx (pre ++ [x]) W'))
    (W : World) (hbW : b < W.heap.size) (hBpW : Bp < W.heap.size) (hBs : W.cell? ⟨Bs, 0, none⟩ = some (.slice (some ⟨b, off, none⟩) qs.length cap)) (hcp : W.cell? ⟨Bp, 0, none⟩ = some (.int .i64 fr))
    (hc : ∀ j (h : j < qs.length), W.cell? ⟨b, off + j * 2, none⟩ = some (.int .i64 qs[j].1) ∧ W.cell? ⟨b, off + j * 2 + 1, none⟩ = some (.bool qs[j].2)) (h0 : J [] W) :
    CallsIn Fence.wide n Tryz.prog 196 #[.func (.yield l) #[] #[], .pointer (some ⟨Bs, 0, none⟩), .pointer (some ⟨Bp, 0, none⟩)] W fun e W' => (∃ v, e = .returned v) ∧
      ((∃ ys, ys = vis qs fr ∧ J ys W') ∨ (∃ pre, pre <+: vis qs fr ∧ Jx pre W')) := by
  have hmix : Tryz.prog.follows .mixedOrders = true := by kernel_rfl
  refine callsIn_of_wp Tryz.func196 rfl trivial ?_ rfl
  simp only [Tryz.ntmps196, List.size_toArray, List.length_cons, List.length_nil, Nat.reduceAdd, Nat.reduceSub, Array.replicate_succ, Array.replicate_zero, List.push_toArray, List.append_toArray, List.nil_append, List.cons_append]
  gi_wp2
  refine wpIn_wide.2 (wp_scope_straight (wpIn_wide (n := n).1 (wpIn_seq (wpIn_label ?_))))
  gi_wp2
  gi_loopw [8] (fun i wr => ∃ k : Nat, k ≤ qs.length ∧ i = .int .i64 k ∧ J (visTo qs fr k) wr ∧ Upd S W wr)
    (fun i _ => qs.length - (intOf i).toNat)
  case atStart => exact ⟨0, Nat.zero_le _, rfl, h0, Upd.refl _ _⟩
  case round =>
    obtain ⟨k, hk, rfl, hJs, hnx⟩ := hrel
    have hct' : wr.cell? ⟨Bp, 0, none⟩ = some (.int .i64 fr) := (hnx.cellAt hBpW hBp).trans hcp
    by_cases hlt : k < qs.length
    · have hc0 : wr.cell? ⟨b, off + k * 2, none⟩ = some (.int .i64 qs[k].1) := (hnx.cellAt hbW hb).trans (hc k hlt).1
      have hc1 : wr.cell? ⟨b, off + k * 2 + 1, none⟩ = some (.bool qs[k].2) := (hnx.cellAt hbW hb).trans (hc k hlt).2
      by_cases hq : qs[k] = (-1, false)
      · have HM : Hid (visTo qs fr (k + 1) = visTo qs fr k) := visTo_miss hlt hq
        rw [hq] at hc0 hc1
        clear hq
        have HP0 : Hid ((wr.alloc (.cells #[.int .i64 (-1), .bool false] 108)).drew.cell? ⟨wr.heap.size, 0, none⟩ = some (.int .i64 (-1))) := cell_of_block (heap_alloc_last wr _ rfl) 0
        have HP1 : Hid ((wr.alloc (.cells #[.int .i64 (-1), .bool false] 108)).drew.cell? ⟨wr.heap.size, 1, none⟩ = some (.bool false)) := cell_of_block (heap_alloc_last wr _ rfl) 1
        gi_wp2
        gi_region_with_o (first | refine ⟨trivial, fun _ => by omega, ?_⟩ | skip; gi_at_call 148; refine (callsIn_wide.2 (nowhere_ok _)).mono ?_; rintro e w3 ⟨rfl, hu3, hz3⟩; have k0 := (hu3.cellAt (by simp) (fun h => h)).trans HP0.out; have k1 := (hu3.cellAt (by simp) (fun h => h)).trans HP1.out)
        all_goals
          have hu4 : Upd (fun _ => False) wr w3 := ((Upd.refl (fun _ => False) wr).alloc _).trans hu3.undrew
          have HJ := Lib.hid (abides_new hJ hJs hu4)
          have HU := Lib.hid (hnx.trans (hu4.mono (S' := S) (fun _ _ h => h.elim)))
          clear hu3 hz3 k0 k1 hu4
          gi_wp2
          go_roundw
          case rel => exact ⟨k + 1, by omega, by simp, by rw [HM.out]; exact HJ.out, HU.out⟩
          case measure => simp [intOf]; omega
      · have hs : 0 ≤ qs[k].1 := (hgood k hlt).resolve_left hq
        have hsb : (qs[k].1 == -1) = false := by simp; omega
        have HM : Hid (visTo qs fr (k + 1) = visTo qs fr k ++ [(fr + k, qs[k])]) := visTo_hit hlt hq
        have HLT : Hid ((visTo qs fr k).length < (visTo qs fr qs.length).length) := visTo_strict qs fr hlt hq
        clear hq
        have HP0 : Hid ((wr.alloc (.cells #[.int .i64 qs[k].1, .bool qs[k].2] 108)).drew.cell? ⟨wr.heap.size, 0, none⟩ = some (.int .i64 qs[k].1)) := cell_of_block (heap_alloc_last wr _ rfl) 0
        have HP1 : Hid ((wr.alloc (.cells #[.int .i64 qs[k].1, .bool qs[k].2] 108)).drew.cell? ⟨wr.heap.size, 1, none⟩ = some (.bool qs[k].2)) := cell_of_block (heap_alloc_last wr _ rfl) 1
        gi_wp2
        gi_region_with_o (first | refine ⟨trivial, fun _ => by omega, ?_⟩ | skip; gi_at_call 148; refine (callsIn_wide.2 (nowhere_ok _)).mono ?_; rintro e w3 ⟨rfl, hu3, hz3⟩; have k0 := (hu3.cellAt (by simp) (fun h => h)).trans HP0.out; have k1 := (hu3.cellAt (by simp) (fun h => h)).trans HP1.out)
        all_goals
          have hu4 : Upd (fun _ => False) wr w3 := ((Upd.refl (fun _ => False) wr).alloc _).trans hu3.undrew
          have HJ := Lib.hid (abides_new hJ hJs hu4)
          have hnx4 := hnx.trans (hu4.mono (S' := S) (fun _ _ h => h.elim))
          have c4 : w3.cell? ⟨Bp, 0, none⟩ = some (.int .i64 fr) := (hnx4.cellAt hBpW hBp).trans hcp
          have HU := Lib.hid hnx4
          obtain ⟨fn, tmps, assign, body, hy, hR⟩ := hY _ (fr + k, qs[k]) w3 HJ.out HLT.out
          simp only [enc9, Int.natCast_add] at hy
          clear hu3 hz3 hu4 hnx4
          gi_wp2
          refine ⟨fun _ => by omega, ?_⟩
          refine hR.mono ?_
          rintro e W3 (⟨rfl, hJ3, hk3⟩ | ⟨rfl, hJx3⟩)
          · have HJ3 := Lib.hid hJ3
            have HU3 := Lib.hid (HU.out.trans (hk3.mono (fun _ _ h => h)))
            clear hJ3 hk3 hR
            gi_wp2
            go_roundw
            case rel => exact ⟨k + 1, by omega, by simp, by rw [HM.out]; exact HJ3.out, HU3.out⟩
            case measure => simp [intOf]; omega
          · clear hR
            gi_wp2
            rw [Exit.noGoto_ret]
            refine bodyPost_ret (results_none rfl _ _ _) rfl ?_
            exact ⟨⟨_, rfl⟩, .inr ⟨_, by rw [← HM.out]; exact visTo_prefix qs fr (by omega), hJx3⟩⟩
    · obtain rfl : k = qs.length := by omega
      gi_wp2
      rw [Exit.noGoto_normal]
      go_end0
      exact ⟨⟨_, rfl⟩, .inl ⟨_, rfl, hJs⟩⟩
theorem it_stops (n : Nat) (hn : 2 ≤ n) (S : Nat → Prop) (Bs Bp b off cap : Nat) (qs : List (Int × Bool)) (fr : Nat) (w : World) (hle : qs.length ≤ 4096) (hfr : fr ≤ 4096) (hgood : ∀ k (h : k < qs.length), qs[k] = (-1, false) ∨ 0 ≤ qs[k].1)
    (hb : b < w.heap.size) (hBp : Bp < w.heap.size) (hBs : Bs < w.heap.size) (hbS : ¬ S b) (hBpS : ¬ S Bp)
    (hcs : w.cell? ⟨Bs, 0, none⟩ = some (.slice (some ⟨b, off, none⟩) qs.length cap)) (hcp : w.cell? ⟨Bp, 0, none⟩ = some (.int .i64 fr))
    (hc : ∀ j (h : j < qs.length), w.cell? ⟨b, off + j * 2, none⟩ = some (.int .i64 qs[j].1) ∧ w.cell? ⟨b, off + j * 2 + 1, none⟩ = some (.bool qs[j].2)) :
    SeqStopsK Fence.wide n Tryz.prog 196 #[.pointer (some ⟨Bs, 0, none⟩), .pointer (some ⟨Bp, 0, none⟩)] enc9 (Upd S) (fun ys => ys = vis qs fr) (fun pre => pre <+: vis qs fr) (vis qs fr).length w := fun l J Jx W hW hJ _ hY h0 =>
  it_in n hn S l Bs Bp b off cap qs fr hle hfr hgood hbS hBpS J Jx W.heap.size hJ hY W (Nat.lt_of_lt_of_le hb hW.size) (Nat.lt_of_lt_of_le hBp hW.size) ((hW.cell (p := ⟨Bs, 0, none⟩) hBs).trans hcs) ((hW.cell (p := ⟨Bp, 0, none⟩) hBp).trans hcp)
    (fun j hj => ⟨(hW.cell (p := ⟨b, off + j * 2, none⟩) hb).trans (hc j hj).1, (hW.cell (p := ⟨b, off + j * 2 + 1, none⟩) hb).trans (hc j hj).2⟩) h0
theorem bundrew {w w' : World} (h : Below w.drew.heap.size w.drew w') : Below w.heap.size w w' := ⟨h.os, h.tape, h.output, h.size, h.block⟩
abbrev spanV (f n : Int) : Value := .agg #[.int .i64 f, .int .i64 n]
def spanL (ps : List (Int × Bool)) (f n : Nat) : List (Int × Bool) := (ps.drop f).take n
theorem plC_drop (ps : List (Int × Bool)) (k : Nat) : plC (ps.drop k) = (plC ps).drop (k * 2) := by
  induction ps generalizing k with
  | nil => simp [plC]
  | cons p ps ih =>
    cases k with
    | zero => rfl
    | succ k =>
      rw [show (k + 1) * 2 = k * 2 + 1 + 1 by omega]
      simpa [plC] using ih k
theorem rd_drop {w : World} {ps : List (Int × Bool)} {g o c : Nat} (h : Sl w 108 2 (.slice (some ⟨g, o, none⟩) ps.length c) ps.length (plC ps)) (f : Nat) (hf : f ≤ ps.length) :
    Rd w 2 (.slice (some ⟨g, o + f * 2, none⟩) (ps.length - f) (c - f)) (ps.drop f).length (plC (ps.drop f)) := by
  obtain ⟨hl, hm, ao, cc, hv, h0, hc⟩ := h.rd
  cases hv
  refine ⟨plC_len _, by rw [List.length_drop]; omega, some ⟨g, o + f * 2, none⟩, c - f, by rw [List.length_drop], (fun h => by cases h), fun b hb j u hj => ?_⟩
  cases hb
  rw [plC_drop, List.getElem?_drop] at hj
  have := hc _ rfl (f * 2 + j) u hj
  have e : (⟨g, o, none⟩ : Addr).add (f * 2 + j) = (⟨g, o + f * 2, none⟩ : Addr).add j := by rw [Addr.add_lit, Addr.add_lit, Nat.add_assoc]
  rw [← e]; exact this
set_option maxRecDepth 100000 in
set_option maxHeartbeats 1000000 in
theorem all_out {w : World} {b mb N : Nat} {v : Value} {ps : List (Int × Bool)} {slots : Nat} (h : IndexAt w b v mb N ps slots) (f n : Int) (ho : f < 0 ∨ n < 0 ∨ (ps.length : Int) ≤ f) :
    Calls Tryz.prog 156 #[.pointer (some ⟨b, 0, none⟩), spanV f n] w fun e w' => e = .returned (.func (.func 194) #[] #[]) ∧ Below w.heap.size w w' := by
  have hu : Upd (fun _ => False) w (w.alloc (.cells #[.int .i64 f, .int .i64 n] 37)) := (Upd.refl _ _).alloc _
  have g0 := (hu.cellAt (o := 0) h.blt (fun h => h)).trans (cell_of_block h.str 0)
  simp at g0
  have hle := h.le
  obtain ⟨ao, c, rfl⟩ := h.sl.rd.nil_iff
  clear h hu
  have ho' : f < 0 ∨ (¬ f < 0 ∧ n < 0) ∨ (¬ f < 0 ∧ ¬ n < 0 ∧ (ps.length : Int) ≤ f) := by omega
  clear ho
  rcases ho' with h1 | ⟨h1, h2⟩ | ⟨h1, h2, h3⟩
  case' inr.inl =>
    have d1 : decide (f < 0) = false := by simpa using h1
    have d2 : decide (n < 0) = true := by simpa using h2
  case' inr.inr =>
    have d1 : decide (f < 0) = false := by simpa using h1
    have d2 : decide (n < 0) = false := by simpa using h2
    have d3 : decide ((ps.length : Int) ≤ f) = true := by simpa using h3
  all_goals
    go_enter Tryz.func156, Tryz.ntmps156
    go_wp2
    go_quiet (fail)
    go_wp2
    go_ret
    exact ⟨rfl, below_drewN ((Below.refl _ _).alloc (Nat.le_refl _) _) _⟩
set_option maxRecDepth 100000 in
set_option maxHeartbeats 1000000 in
theorem all_in {w : World} {b mb N : Nat} {v : Value} {ps : List (Int × Bool)} {slots : Nat} (h : IndexAt w b v mb N ps slots) (f n : Nat) (hf : f < ps.length) :
    Calls Tryz.prog 156 #[.pointer (some ⟨b, 0, none⟩), spanV f n] w fun e w' => ∃ Bs Bp g off cap, e = .returned (.func (.func 196) #[] #[.pointer (some ⟨Bs, 0, none⟩), .pointer (some ⟨Bp, 0, none⟩)]) ∧
      (w.heap.size ≤ Bp ∧ w.heap.size ≤ g ∧ w.heap.size ≤ Bs) ∧ Bs < w'.heap.size ∧ Bp < w'.heap.size ∧ g < w'.heap.size ∧ w'.cell? ⟨Bs, 0, none⟩ = some (.slice (some ⟨g, off, none⟩) (spanL ps f n).length cap) ∧ w'.cell? ⟨Bp, 0, none⟩ = some (.int .i64 f) ∧
      (∀ j (h : j < (spanL ps f n).length), w'.cell? ⟨g, off + j * 2, none⟩ = some (.int .i64 (spanL ps f n)[j].1) ∧ w'.cell? ⟨g, off + j * 2 + 1, none⟩ = some (.bool (spanL ps f n)[j].2)) ∧ Below w.heap.size w w' := by
  have hu : Upd (fun _ => False) w (w.alloc (.cells #[.int .i64 f, .int .i64 n] 37)) := (Upd.refl _ _).alloc _
  have g0 := (hu.cellAt (o := 0) h.blt (fun h => h)).trans (cell_of_block h.str 0)
  simp at g0
  have hle := h.le
  have HI0 := Lib.hid h
  obtain ⟨ao, c, rfl⟩ := h.sl.rd.nil_iff
  have d1 : ¬ (f : Int) < 0 := by omega
  have d2 : ¬ (n : Int) < 0 := by omega
  have d3 : ¬ (ps.length : Int) ≤ f := by omega
  clear h
  go_enter Tryz.func156, Tryz.ntmps156
  go_wp2
  go_quiet (fail)
  go_wp2
  clear g0
  generalize hw2 : (w.alloc (.cells #[.int .i64 f, .int .i64 n] 37)).drewN nq = w2
  have hu2 : Upd (fun _ => False) w w2 := by rw [← hw2]; exact hu.drewN nq
  have hsp : w2.heap[w.heap.size]? = some (.cells #[.int .i64 f, .int .i64 n] 37) := by rw [← hw2]; exact heap_alloc_last w _ rfl
  have hz2 : w2.heap.size = w.heap.size + 1 := by rw [← hw2]; simp [World.drewN]
  clear hw2 hu
  have t0 := cell_of_block hsp 0
  have t1 := cell_of_block hsp 1
  simp at t0 t1
  have g0 := (hu2.cellAt (o := 0) HI0.out.blt (fun h => h)).trans (cell_of_block HI0.out.str 0)
  simp at g0
  obtain ⟨gb, go, rfl, hgc1⟩ : ∃ gb go, ao = some (⟨gb, go, none⟩ : Addr) ∧ ps.length ≤ c := by
    obtain ⟨hl, ⟨h1, h2⟩ | ⟨g', off', cap', cur, h1, hg, hn, _⟩⟩ := HI0.out.sl
    · omega
    · cases h1; exact ⟨g', off', rfl, hn⟩
  have hua : Upd (fun _ => False) w2 (w2.alloc (.cells #[.slice none 0 0] 227)).drew := ((Upd.refl _ _).alloc _).drew
  have HR : Hid (Rd (w2.alloc (.cells #[.slice none 0 0] 227)).drew 2 (.slice (some ⟨gb, go + f * 2, none⟩) (ps.length - f) (c - f)) (ps.drop f).length (plC (ps.drop f))) :=
    (rd_drop (HI0.out.sl.keep hu2 (fun _ _ h => h)) f (by omega)).keep hua (fun _ _ h => h)
  have HR2 : Hid (Rd w2.drew 2 (.slice (some ⟨gb, go + f * 2, none⟩) (ps.length - f) (c - f)) (ps.drop f).length (plC (ps.drop f))) :=
    (rd_drop (HI0.out.sl.keep hu2 (fun _ _ h => h)) f (by omega)).keep ((Upd.refl (fun _ => False) w2).drew) (fun _ _ h => h)
  have HT2 : Hid (w2.drew.cell? ⟨b, 0, none⟩ = some (.slice (some ⟨gb, go, none⟩) ps.length c) ∧ w2.drew.cell? ⟨w.heap.size, 0, none⟩ = some (.int .i64 f) ∧ w2.drew.cell? ⟨w.heap.size, 1, none⟩ = some (.int .i64 n)) := ⟨g0, t0, t1⟩
  have hcf : ¬ c = f := by omega
  have hfl : f ≤ ps.length := by omega
  have hbl := HI0.out.blt
  have HT : Hid ((w2.alloc (.cells #[.slice none 0 0] 227)).drew.cell? ⟨b, 0, none⟩ = some (.slice (some ⟨gb, go, none⟩) ps.length c) ∧ (w2.alloc (.cells #[.slice none 0 0] 227)).drew.cell? ⟨w.heap.size, 0, none⟩ = some (.int .i64 f) ∧
      (w2.alloc (.cells #[.slice none 0 0] 227)).drew.cell? ⟨w.heap.size, 1, none⟩ = some (.int .i64 n) ∧ (w2.alloc (.cells #[.slice none 0 0] 227)).drew.heap[w.heap.size + 1]? = some (.cells #[.slice none 0 0] 227)) :=
    ⟨(hua.cellAt (by omega) (fun h => h)).trans g0, (hua.cellAt (by omega) (fun h => h)).trans t0, (hua.cellAt (by omega) (fun h => h)).trans t1, heap_alloc_last w2 _ hz2.symm⟩
  have hnb : ¬ w.heap.size + 1 = b := by omega
  go_region_held3 (fun W => W.cell? ⟨b, 0, none⟩ = some (.slice (some ⟨gb, go, none⟩) ps.length c) ∧ W.cell? ⟨w.heap.size, 0, none⟩ = some (.int .i64 f) ∧ W.cell? ⟨w.heap.size, 1, none⟩ = some (.int .i64 n)) (go_keep)
    (first
    | ((go_at_call 195; refine (cloneP_any HR2.out (by simp; omega) (by simp; omega)).mono ?_; rintro e w3 ⟨v', rfl, hs3, hf3, hb3⟩; obtain ⟨ao', c', rfl⟩ := hs3.rd.nil_iff; have k0 := (hb3.cell (p := ⟨b, 0, none⟩) (by simp; omega)).trans HT2.out.1; have k1 := (hb3.cell (p := ⟨w.heap.size, 0, none⟩) (by simp; omega)).trans HT2.out.2.1; have k2 := (hb3.cell (p := ⟨w.heap.size, 1, none⟩) (by simp; omega)).trans HT2.out.2.2))
    | ((go_at_call 195; refine (cloneP_any HR.out (by simp; omega) (by simp; omega)).mono ?_; rintro e w3 ⟨v', rfl, hs3, hf3, hb3⟩; obtain ⟨ao', c', rfl⟩ := hs3.rd.nil_iff; have k0 := (hb3.cell (p := ⟨b, 0, none⟩) (by simp; omega)).trans HT.out.1; have k1 := (hb3.cell (p := ⟨w.heap.size, 0, none⟩) (by simp; omega)).trans HT.out.2.1; have k2 := (hb3.cell (p := ⟨w.heap.size, 1, none⟩) (by simp; omega)).trans HT.out.2.2.1; have kb := (hb3.block (w.heap.size + 1) (by simp; omega)).trans HT.out.2.2.2; have k3 := cell_of_block kb 0; have k4 := frozen_of_block kb 0; simp at k3)))
  case' refine_2.refine_3.refine_3.refine_3.refine_3.refine_3.refine_3.refine_3.refine_1.refine_2.refine_1.refine_2.refine_1.refine_2 =>
    have hw35 : Upd (fun _ => False) w3 (w3.alloc (.cells #[.slice ao' (ps.length - f) c'] 227)) := (Upd.refl _ _).alloc _
    have hbox := heap_alloc_last w3 (.cells #[.slice ao' (ps.length - f) c'] 227) rfl
    have hBb := below_upd (below_upd (Below.refl _ w) hu2 (Nat.le_refl _) (fun _ h => h.elim)) (Upd.of_below (S := fun _ => False) (bundrew hb3)) (Nat.le_refl _) (fun _ h => h.elim)
    have hF : From w.heap.size (.slice ao' (ps.length - f) c') := fun g hg => by have := hf3 g (by rw [List.length_drop]; exact hg); simp at this; omega
    have hbs0 : w.heap.size ≤ w3.heap.size := hBb.size
    have hs5 := hs3.keep hw35 (fun _ _ h => h)
    have hB5 := below_upd hBb hw35 (Nat.le_refl _) (fun _ h => h.elim)
    have t5 := (hw35.cellAt (b := w.heap.size) (o := 0) (by have := hb3.size; simp at this; omega) (fun h => h)).trans k1
    have t6 := (hw35.cellAt (b := w.heap.size) (o := 1) (by have := hb3.size; simp at this; omega) (fun h => h)).trans k2
    have hbs1 : w3.heap.size ≠ w.heap.size := by have := hb3.size; simp at this; omega
    clear hw35 hs3 hf3 hb3 k0 k1 k2 hBb
    generalize (w3.alloc (.cells #[.slice ao' (ps.length - f) c'] 227)) = w5 at *
    generalize w3.heap.size = Bs at *
  rotate_left
  have hw35 : Upd (fun j => j = w.heap.size + 1) w3 (w3.setCell ⟨w.heap.size + 1, 0, none⟩ (.slice ao' (ps.length - f) c')) := upd_setCell _ _ _ _
  have hbox := heap_setCell_same kb 0 (.slice ao' (ps.length - f) c')
  simp at hbox
  have hBa := below_upd (below_upd (Below.refl _ w) hu2 (Nat.le_refl _) (fun _ h => h.elim)) hua (Nat.le_refl _) (fun _ h => h.elim)
  have hBb := below_upd hBa (Upd.of_below (S := fun _ => False) hb3) (Nat.le_refl _) (fun _ h => h.elim)
  have hF : From w.heap.size (.slice ao' (ps.length - f) c') := fun g hg => by have := hf3 g (by rw [List.length_drop]; exact hg); simp at this; omega
  have hbs0 : w.heap.size ≤ w.heap.size + 1 := by omega
  have hs5 := hs3.keep hw35 (fun g hg e => by have := hf3 g hg; simp at this; omega)
  have hB5 := below_upd hBb hw35 (Nat.le_refl _) (fun j e => by omega)
  have t5 := (hw35.cellAt (b := w.heap.size) (o := 0) (by have := hb3.size; simp at this; omega) (by omega)).trans k1
  have t6 := (hw35.cellAt (b := w.heap.size) (o := 1) (by have := hb3.size; simp at this; omega) (by omega)).trans k2
  have hbs1 : w.heap.size + 1 ≠ w.heap.size := by omega
  clear hw35 hs3 hf3 hb3 k0 k1 k2 k3 k4 kb hBa hBb hnb hua HT HT2 HR HR2
  generalize (w3.setCell ⟨w.heap.size + 1, 0, none⟩ (.slice ao' (ps.length - f) c')) = w5 at *
  generalize w.heap.size + 1 = Bs at *
  all_goals
    obtain ⟨g', off', cap', cur, hve, hg', hcs, hcc⟩ := hs5.at (by simp; omega)
  all_goals
    cases hve
    have hel : Hid (∀ j (h : j < (ps.drop f).length), w5.cell? ⟨g', off' + j * 2, none⟩ = some (.int .i64 (ps.drop f)[j].1) ∧ w5.cell? ⟨g', off' + j * 2 + 1, none⟩ = some (.bool (ps.drop f)[j].2)) :=
      fun j h => ⟨(cell_of_block hg' _).trans (hcc _ _ (plC_at h).1), (cell_of_block hg' _).trans (hcc (j * 2 + 1) _ (plC_at h).2)⟩
    have hgl := lt_of_block hg'
    have hgf := hF g' rfl
    have hbl5 := lt_of_block hbox
    have hcap : ps.length - f ≤ c' := by
      obtain ⟨_, ⟨h1, _⟩ | ⟨_, _, _, _, h1, _, h2, _⟩⟩ := hs5
      · cases h1
      · cases h1; simpa using h2
    have hgBs : g' ≠ Bs := fun e => by
      rw [e] at hg'
      rw [hg'] at hbox
      simp at hbox
    have y0 := cell_of_block hbox 0
    have y1 := frozen_of_block hbox 0
    simp at y0
    have HBX := Lib.hid hbox
    clear hcs hcc hg' hs5 hbox
    by_cases hlt : (n : Int) < ((ps.length - f : Nat) : Int)
    · have hn1 : n ≤ ps.length - f := by omega
      have hn2 : n ≤ c' := by omega
      have hL : Hid (spanL ps f n = (ps.drop f).take n) := rfl
      have hLn : (spanL ps f n).length = n := by simp [spanL]; omega
      go_wp2
      go_ret
      have hus : Upd (fun j => j = Bs) w5 (w5.setCell ⟨Bs, 0, none⟩ (.slice (some ⟨g', off', none⟩) n c')) := upd_setCell _ _ _ _
      have hspl := (addr_of_cell t5).2
      refine ⟨Bs, w.heap.size, g', off', c', rfl, ⟨Nat.le_refl _, hgf, hbs0⟩, by rw [World.size_setCell]; exact hbl5, by rw [World.size_setCell]; exact hspl, by rw [World.size_setCell]; exact hgl, ?_, (hus.cellAt hspl (fun e => hbs1 e.symm)).trans t5, ?_, hB5.setCell (p := ⟨Bs, 0, none⟩) hbs0 _⟩
      · rw [hLn, cell_of_block (heap_setCell_same HBX.out 0 _)]; simp
      · intro j hj
        have hj2 : j < (ps.drop f).length := by rw [hLn] at hj; simp; omega
        have e : (spanL ps f n)[j] = (ps.drop f)[j] := by simp [spanL]
        rw [e]
        exact ⟨(hus.cellAt hgl (fun e => hgBs e)).trans (hel.out j hj2).1, (hus.cellAt hgl (fun e => hgBs e)).trans (hel.out j hj2).2⟩
    · go_wp2
      go_ret
      have hL : spanL ps f n = ps.drop f := by unfold spanL; rw [List.take_of_length_le]; simp; omega
      rw [hL]
      have hspl := (addr_of_cell t5).2
      exact ⟨Bs, w.heap.size, rfl, g', ⟨Nat.le_refl _, hgf, hbs0⟩, hbl5, hspl, hgl, off', ⟨c', by rw [List.length_drop]; exact y0⟩, t5, hel.out, hB5⟩
end Go.Proofs.YtnadilfobmgebaaGreatDoor
