/- Pages: what sectors tell of a checkpoint (entries). A journal: may, New, Next. The journal: the numbers of its sectors. The record that a sector is. -/
import Derived.Test.YtfhfbpmlnjdfoaaGreatDoorA11
import Derived.Test.YtfhfbpmlnjdfoaaGreatDoorA12
import Derived.Test.YtfhfbpmlnjdfoaaGreatDoorA13
import Derived.Test.YtfhfbpmlnjdfoaaGreatDoorA08
import Derived.Test.YtfhfbpmlnjdfoaaGreatDoorA06
import Derived.Test.YtfhfbpmlnjdfoaaGreatDoorA07
namespace Go.Proofs.YtfhfbpmlnjdfoaaGreatDoor
open Go Go.RowKit
theorem infoEnt4 : ∃ i z, Tryz.prog.info? 37 = some i ∧ i.zero = some z ∧ z.cells.size = 4 ∧ i.size = 4 ∧ i.bytes = 32 := by
  have h : (Tryz.prog.info? 37).map (fun i => (i.zero.map (·.cells.size), i.size, i.bytes)) = some (some 4, 4, 32) := by kernel_rfl
  obtain ⟨i, hi, he⟩ := Option.map_eq_some_iff.1 h
  simp only [Prod.mk.injEq] at he
  obtain ⟨z, hz, hz2⟩ := Option.map_eq_some_iff.1 he.1
  exact ⟨i, z, hi, hz, hz2, he.2.1, he.2.2⟩
theorem row_of_rowC {w : World} {g o : Nat} {l : List Bk} (h : ∀ j u, (rowC l)[j]? = some u → w.cell? ⟨g, o + j, none⟩ = some u) (hl : All64 l) {k : Nat} (hk : k < l.length) : w.rangeAt g (o + k * 64) (bkC (l.getD k zB)) := by
  intro j v hj
  have e : l.getD k zB = l[k] := by rw [List.getD_eq_getElem?_getD, List.getElem?_eq_getElem hk]; rfl
  rw [e] at hj
  have hj' := (List.getElem?_eq_some_iff.1 hj).1
  rw [bkC_len, hl _ (List.getElem_mem hk)] at hj'
  rw [Nat.add_assoc]
  exact h _ v ((rowC_at hl hk hj').trans hj)
def EntsOut (w : World) (l : List Bk) (e : Ending) (w' : World) : Prop :=
  ∃ v, e = .returned (.tuple #[.int .i64 ((if readOk l then readSeq l else 0 : Nat) : Int), v, .bool (readOk l)]) ∧ Sl w' 37 4 v (if readOk l then readEs l else []).length ((if readOk l then readEs l else []).flatMap entC) ∧ From w.heap.size v ∧ Below w.heap.size w w'
theorem EntsOut.no {w w' : World} {l : List Bk} (h : readOk l = false) (hb : Below w.heap.size w w') : EntsOut w l (.returned (.tuple #[.int .i64 0, .slice none 0 0, .bool false])) w' :=
  ⟨.slice none 0 0, by rw [h]; rfl, by rw [h]; exact Sl.nil _ _ _, From.nil _ _ _, hb⟩
theorem cdP_no {b : Bk} (h : okP b = false) : (cdP b == 0) = false := by
  unfold okP at h
  unfold cdP cdGet
  rw [h]
  split
  · next h => cases h
  · split <;> decide
theorem cdP_ok {b : Bk} (h : okP b = true) : cdP b = 0 := by
  unfold okP at h
  unfold cdP cdGet
  rw [h]
  rfl
theorem entsTo_succ (l : List Bk) (k : Nat) : entsTo l (k + 1) = entsTo l k ++ pgEnts (l.getD k zB) := by simp [entsTo, List.range_succ]
theorem goes_no {l : List Bk} {k : Nat} (hk : k < l.length) (h : goesP (readSeq l) (readOf l) k (l.getD k zB) = false) : readOk l = false := by
  rw [← Bool.not_eq_true]
  intro e
  unfold readOk at e
  rw [Bool.and_eq_true, Bool.and_eq_true, List.all_eq_true] at e
  have := e.2.2 k (List.mem_range.2 hk)
  rw [h] at this; cases this
theorem entsTo_le {l : List Bk} {of : Nat} (h : ∀ i, i < of → okP (l.getD i zB) = true) : ∀ k, k ≤ of → (entsTo l k).length ≤ 4 * k
  | 0, _ => Nat.le_refl _
  | k + 1, hk => by
    rw [entsTo_succ, List.length_append]
    have h1 := entsTo_le h k (by omega)
    have h2 := (okP_bounds (h k (by omega))).2.2.2.2
    have : (pgEnts (l.getD k zB)).length = pgMany (l.getD k zB) := by simp [pgEnts]
    omega
set_option maxRecDepth 100000 in
set_option maxHeartbeats 4000000 in
theorem pentries {w : World} {v : Value} {l : List Bk} (hs : Rd w 64 v l.length (rowC l)) (hl : All64 l) (hpos : 0 < l.length) (hl1 : l.length ≤ 4096) (hN : Nib w) : Calls Tryz.prog 99 #[v] w (EntsOut w l) := by
  obtain ⟨g, o, cap, rfl, hg, hrow⟩ := hs.at hpos
  have hr0 := row_of_rowC hrow hl hpos
  rw [Nat.zero_mul, Nat.add_zero] at hr0
  have h64 : ∀ k, (l.getD k zB).length = 64 := fun k => by
    rw [List.getD_eq_getElem?_getD]
    cases h : l[k]? with
    | none => rfl
    | some x => exact hl x (List.mem_of_getElem? h)
  obtain ⟨b0, hb0⟩ : ∃ b0, b0 = l.getD 0 zB := ⟨_, rfl⟩
  have h640 : b0.length = 64 := by rw [hb0]; exact h64 0
  rw [← hb0] at hr0
  have HG := Lib.hid (GetP_any hN b0 h640)
  have q0 : (0 : Int) < (l.length : Int) := by omega
  have hsz := sizeBk b0 h640
  obtain ⟨Z, hZ⟩ : ∃ Z, Z = dsPk [] 0 := ⟨_, rfl⟩
  have hal := allocPg
  simp only [← hZ] at hal
  have hZl : Z.toArray.size = 20 := by rw [hZ, List.size_toArray, dsPk_len]
  have HR := Lib.hid (And.intro hrow (And.intro hl (And.intro h64 (And.intro hN (And.intro hb0 (And.intro hal hZl))))))
  clear hrow hl h64 hN hb0 hs hZ hZl
  go_enter Tryz.func99, Tryz.ntmps99
  go_wp2
  go_step3
  go_wp2_with (first
    | (refine wpList_load_mid rfl _ _ rfl _ _ rfl _ _ hr0 Tryz.underlying54 rfl hsz ?_)
    | fail)
  refine HG.out.mono ?_
  rintro e w1 ⟨⟨rs, hr1, hr2, rfl⟩, hb1⟩
  have hrl : rs.length = 20 ∧ ∀ v ∈ rs, v.oneCell' = true := by
    cases hk : okP b0 with
    | true => rw [hr1 hk]; exact ⟨dsP_len _, dsP_one _⟩
    | false => rw [hr2 hk]; exact ⟨rfl, List.all_eq_true.1 (by simp [zeroP, Value.oneCell'] : zeroP.all (·.oneCell') = true)⟩
  obtain ⟨w2, hw2⟩ : ∃ w2, w2 = w1.alloc (.cells rs.toArray 280) := ⟨_, rfl⟩
  have hu2 : Upd (fun _ => False) w w2 := by rw [hw2]; exact (Upd.of_below hb1).alloc _
  have g2 : w2.heap[w1.heap.size]? = some (.cells rs.toArray 280 (0, 0)) := by rw [hw2]; exact heap_alloc_last w1 _ rfl
  have z2 : w2.heap.size = w1.heap.size + 1 := by rw [hw2]; simp
  have hge := hb1.size
  have HW := Lib.hid (And.intro hw2 hrl)
  have H2 := Lib.hid (And.intro hu2 (And.intro g2 (And.intro z2 hge)))
  clear hu2 g2 z2 hge hw2 hb1 hr0
  obtain ⟨P, hP⟩ : ∃ P, P = w1.heap.size := ⟨_, rfl⟩
  rw [← hP] at H2
  go_upto_region 2 with (first
    | (refine wpList_allocZ rfl _ rfl _ hal ?_)
    | (refine wpList_store_new rfl _ _ _ rfl _ _ rs rfl rfl (by rw [HW.out.2.1]; exact HR.out.2.2.2.2.2.2) (by rw [HW.out.2.1]; exact infoPg) HW.out.2.2 ?_)
    | fail)
  rw [← HW.out.1, ← hP]
  have HP := Lib.hid hP
  clear hP
  cases hok : okP b0 with
  | false =>
    have q1 := cdP_no hok
    have hno : readOk l = false := by unfold readOk; rw [← HR.out.2.2.2.2.1, hok]; rfl
    generalize cdP b0 = cd at *
    have HN := Lib.hid hno
    have q2 : ¬ cd = 0 := by simpa using q1
    clear hok hno hr1 hr2
    go_wp2_with fail
    rw [Exit.noGoto_ret]
    exact bodyPost_ret (v := .tuple #[.int .i64 0, .slice none 0 0, .bool false]) (by simp [results, Tryz.results99, go_sem]) rfl (EntsOut.no HN.out (Upd.below H2.out.1))
  | true =>
    have hcd := cdP_ok hok
    rw [hcd]
    obtain ⟨hu2, g2, z2, hge⟩ := H2.out
    rw [hr1 hok] at g2
    obtain ⟨c0, c1, c2, c3, cr⟩ := pg_cells g2 hok
    obtain ⟨-, -, ho1, ho2, -⟩ := okP_bounds hok
    have hof : readOf l = pgOf b0 := by unfold readOf; rw [HR.out.2.2.2.2.1]
    have hsq : readSeq l = pgSeq b0 := by unfold readSeq; rw [HR.out.2.2.2.2.1]
    rw [← hof] at c2 ho1 ho2
    rw [← hsq] at c0
    have HB := Lib.hid (And.intro g2 (And.intro c0 (And.intro ho1 (And.intro ho2 hok))))
    clear g2 c0 c1 c3 cr hof hsq hcd hr1 hr2 hok hu2 z2 hge ho1 ho2
    by_cases hle : readOf l ≤ l.length
    · have q2 : ¬ ((l.length : Int) < (readOf l : Int)) := by omega
      go_wp2_with fail
      go_step3
      go_wp2_with fail
      go_loopg [7, 8, 32] l.length (fun gk s7 s8 s32 wr => ∃ k : Nat, k + gk = l.length ∧ s32 = .int .i64 (k : Int) ∧ s8 = .bool true ∧ Sl wr 37 4 s7 (entsTo l (min k (readOf l))).length ((entsTo l (min k (readOf l))).flatMap entC) ∧ From (P + 1) s7 ∧ Upd (fun j => P + 1 ≤ j) w2 wr ∧ ∀ i < k, goesP (readSeq l) (readOf l) i (l.getD i zB) = true)
      case atStart => exact ⟨0, by omega, rfl, rfl, by rw [Nat.zero_min]; exact Sl.nil _ _ _, From.nil _ _ _, Upd.refl _ _, fun i h => by omega⟩
      case round =>
        obtain ⟨k, hk, rfl, rfl, hsl, hfr, hu, hall⟩ := hrel
        obtain ⟨hrow, hl, h64, hN, hb0, hal', hZl⟩ := HR.out
        obtain ⟨hu2, g2, z2, hge⟩ := H2.out
        obtain ⟨gg2, c0, ho1, ho2, hok⟩ := HB.out
        have hout : ∀ j, j ≤ P → ¬ (P + 1 ≤ j) := fun j hj => by omega
        have d0 := hu.cellv c0 (hout _ (Nat.le_refl _))
        have d2 := hu.cellv c2 (hout _ (Nat.le_refl _))
        have hU : Upd (fun j => w.heap.size ≤ j) w wr := (hu2.mono (fun _ _ h => h.elim)).trans (hu.mono (fun j _ (h : P + 1 ≤ j) => by omega))
        by_cases hlt : k < l.length
        · have k1 : (k : Int) < (l.length : Int) := by omega
          have k0 : (0 : Int) ≤ (k : Int) := by omega
          obtain ⟨bk, hbk⟩ : ∃ bk, bk = l.getD k zB := ⟨_, rfl⟩
          have hbl : bk.length = 64 := by rw [hbk]; exact h64 k
          have hr1 := row_of_rowC hrow hl hlt
          rw [← hbk] at hr1
          have hrk : wr.rangeAt g (o + k * 64) (bkC bk) := hU.range hr1 (by omega)
          have hszk := sizeBk bk hbl
          obtain ⟨w3, hw3⟩ : ∃ w3, w3 = wr.alloc (.cells (bkC bk).toArray 54) := ⟨_, rfl⟩
          have hu3 : Upd (fun _ => False) wr w3 := by rw [hw3]; exact (Upd.refl _ wr).alloc _
          have g3 : w3.heap[wr.heap.size]? = some (.cells (bkC bk).toArray 54 (0, 0)) := by rw [hw3]; exact heap_alloc_last wr _ rfl
          have r3 := range_of_block g3
          have e0 := hu3.cellv d0 (fun h => h)
          have e2 := hu3.cellv d2 (fun h => h)
          have hst := bkC_one bk
          have HW3 := Lib.hid hw3
          have hzr : P + 1 ≤ wr.heap.size := by have := hu.size; omega
          have H3 := Lib.hid (And.intro hu3 (And.intro hsl (And.intro hfr (And.intro hu (And.intro hall (And.intro hU (And.intro hN (And.intro ho1 (And.intro ho2 (And.intro hk hzr))))))))))
          obtain ⟨q, hq⟩ : ∃ q, q = wr.heap.size := ⟨_, rfl⟩
          have HQ := Lib.hid hq
          have HBK := Lib.hid (And.intro hbk hb0)
          have hx8 : (bkC bk).toArray.size = 64 := bkC_size _ hbl
          rw [← hq] at r3
          have hb3 : Below w.heap.size w w3 := (below_upd (Below.refl _ w) hU (Nat.le_refl _) (fun _ h => h)).trans ((Upd.below hu3).mono hU.size)
          have HE := Lib.hid hb3
          clear hw3 hu3 g3 hu2 g2 z2 hge gg2 c0 ho1 ho2 hok d0 d2 hr1 hsl hfr hu hall hU hN hal' hrow hl h64 hZl hzr hq hb3 hbk hb0
          go_upto_region 9 with (first
            | (refine wpList_load_mid rfl _ _ rfl _ _ rfl _ _ hrk Tryz.underlying54 rfl hszk ?_)
            | (refine wpList_store_new rfl _ _ _ rfl _ _ (bkC bk) rfl rfl (by rw [bkC_len, hbl]; rfl) hszk hst ?_)
            | fail)
          rw [← HW3.out, ← HQ.out]
          by_cases hof : readOf l ≤ k
          · have hgo : goesP (readSeq l) (readOf l) k bk = (bk == zB) := by unfold goesP; rw [if_pos hof]
            have q3 : ((readOf l : Nat) : Int) ≤ (k : Int) := by omega
            have hneq := fun W => run_neq_bk bk zB hbl zB_len W
            obtain ⟨ZB, hZB⟩ : ∃ ZB, ZB = zB := ⟨_, rfl⟩
            have hbz := buildZ_run ZB hZB
            rw [← hZB] at hneq hgo
            have HZB := Lib.hid hZB
            clear hZB
            by_cases hz : bk = ZB
            · have qz : (bk == ZB) = true := by simp [hz]
              rw [qz] at hneq hgo
              have HGO := Lib.hid hgo
              clear hgo hz
              go_wp2_with (first
                | (refine wpList_load_mid rfl _ _ rfl _ _ rfl _ _ r3 Tryz.underlying54 rfl hszk ?_)
                | (refine wpList_buildZ rfl rfl hbz ?_)
                | fail)
              go_roundg (gk - 1)
              case measure => omega
              case rel =>
                obtain ⟨hu3, hsl, hfr, hu, hall, hU, hN, ho1, ho2, hk, hzr⟩ := H3.out
                refine ⟨k + 1, by omega, by go_num, rfl, ?_, hfr, hu.trans (hu3.mono (fun _ _ h => h.elim)), fun i hi => ?_⟩
                · rw [Nat.min_eq_right hof] at hsl
                  rw [Nat.min_eq_right (by omega)]
                  exact hsl.keep hu3 (fun _ _ h => h)
                · rcases Nat.lt_succ_iff_lt_or_eq.1 hi with h | rfl
                  · exact hall i h
                  · rw [← HBK.out.1]; exact HGO.out
            · have qz : (bk == ZB) = false := by simpa using hz
              rw [qz] at hneq hgo
              have HN := Lib.hid (goes_no hlt (HBK.out.1 ▸ hgo))
              clear hgo hz
              go_wp2_with (first
                | (refine wpList_load_mid rfl _ _ rfl _ _ rfl _ _ r3 Tryz.underlying54 rfl hszk ?_)
                | (refine wpList_buildZ rfl rfl hbz ?_)
                | fail)
              rw [Exit.noGoto_ret]
              exact bodyPost_ret (v := .tuple #[.int .i64 0, .slice none 0 0, .bool false]) (by simp [results, Tryz.results99, go_sem]) rfl (EntsOut.no HN.out HE.out)
          · have q3 : ¬ (((readOf l : Nat) : Int) ≤ (k : Int)) := by omega
            have hgo : goesP (readSeq l) (readOf l) k bk = (okP bk && (pgSeq bk == readSeq l && (pgNo bk == k && (pgOf bk == readOf l && (if k + 1 = readOf l then !(pgMany bk == 0 && decide (0 < k)) else pgMany bk == 4))))) := by unfold goesP; rw [if_neg hof]
            have hGP := Lib.hid (GetP_any (H3.out.2.2.2.2.2.2.1.keep (S := fun j => w.heap.size ≤ j) (H3.out.2.2.2.2.2.1.trans (H3.out.1.mono (fun _ _ h => h.elim))) (fun h => by have := H3.out.2.2.2.2.2.2.1.lt; omega)) bk hbl)
            go_wp2_with (first
              | (refine wpList_load_mid rfl _ _ rfl _ _ rfl _ _ r3 Tryz.underlying54 rfl hszk ?_)
              | fail)
            refine hGP.out.mono ?_
            rintro e w4 ⟨⟨rs', hr1, hr2, rfl⟩, hb4⟩
            have hrl' : rs'.length = 20 ∧ ∀ v ∈ rs', v.oneCell' = true := by
              cases hk : okP bk with
              | true => rw [hr1 hk]; exact ⟨dsP_len _, dsP_one _⟩
              | false => rw [hr2 hk]; exact ⟨rfl, List.all_eq_true.1 (by simp [zeroP, Value.oneCell'] : zeroP.all (·.oneCell') = true)⟩
            obtain ⟨w5, hw5⟩ : ∃ w5, w5 = w4.alloc (.cells rs'.toArray 280) := ⟨_, rfl⟩
            have hu5 : Upd (fun _ => False) w3 w5 := by rw [hw5]; exact (Upd.of_below hb4).alloc _
            have g5 : w5.heap[w4.heap.size]? = some (.cells rs'.toArray 280 (0, 0)) := by rw [hw5]; exact heap_alloc_last w4 _ rfl
            have hz5 : w5.heap.size = w4.heap.size + 1 := by rw [hw5]; simp
            have f0 := hu5.cellv e0 (fun h => h)
            have f2 := hu5.cellv e2 (fun h => h)
            have HW5 := Lib.hid (And.intro hw5 hrl')
            obtain ⟨M, hM⟩ : ∃ M, M = w4.heap.size := ⟨_, rfl⟩
            rw [← hM] at g5
            have hb5 : Below w.heap.size w w5 := HE.out.trans ((Upd.below hu5).mono HE.out.size)
            have HE5 := Lib.hid (And.intro hb5 (And.intro hu5 (And.intro hz5 (And.intro hM hb4.size))))
            have HM := Lib.hid hM
            clear hw5 hrl' hb4 hu5 hz5 hb5 e0 e2 hM r3
            go_upto_region 13 with (first
              | (refine wpList_allocZ rfl _ rfl _ hal ?_)
              | (refine wpList_store_new rfl _ _ _ rfl _ _ rs' rfl rfl (by rw [HW5.out.2.1]; exact HR.out.2.2.2.2.2.2) (by rw [HW5.out.2.1]; exact infoPg) HW5.out.2.2 ?_)
              | fail)
            rw [← HW5.out.1, ← HM.out]
            cases hok : okP bk with
            | false =>
              have q4 := cdP_no hok
              rw [hok] at hgo
              have HN := Lib.hid (goes_no hlt (HBK.out.1 ▸ hgo))
              generalize cdP bk = cd at *
              have q5 : ¬ cd = 0 := by simpa using q4
              clear hok hgo hr1 hr2
              go_wp2_with fail
              rw [Exit.noGoto_ret]
              exact bodyPost_ret (v := .tuple #[.int .i64 0, .slice none 0 0, .bool false]) (by simp [results, Tryz.results99, go_sem]) rfl (EntsOut.no HN.out HE5.out.1)
            | true =>
              rw [cdP_ok hok]
              rw [hr1 hok] at g5
              obtain ⟨y0, y1, y2, y3, yr⟩ := pg_cells g5 hok
              rw [hok, Bool.true_and] at hgo
              have hmany := (okP_bounds hok).2.2.2.2
              have hel : (pgEnts bk).length = pgMany bk := by simp [pgEnts]
              obtain ⟨pe, hpe⟩ : ∃ pe, pe = pgEnts bk := ⟨_, rfl⟩
              rw [← hpe] at yr hel
              have HPE := Lib.hid hpe
              generalize pgSeq bk = a0 at *
              generalize pgNo bk = a1 at *
              generalize pgOf bk = a2 at *
              generalize pgMany bk = a3 at *
              clear hr1 hr2 hok g5 hpe
              have hgn : goesP (readSeq l) (readOf l) k bk = false → readOk l = false := fun h => goes_no hlt (HBK.out.1 ▸ h)
              have hfin : goesP (readSeq l) (readOf l) k bk = true → ∀ v' w6, Sl w6 37 4 v' ((entsTo l k).length + a3) ((entsTo l k).flatMap entC ++ pe.flatMap entC) → Upd (ownS u7) w5 w6 → blockFrom w5 u7 v' →
                  Sl w6 37 4 v' (entsTo l (min (k + 1) (readOf l))).length ((entsTo l (min (k + 1) (readOf l))).flatMap entC) ∧ From (P + 1) v' ∧ Upd (fun j => P + 1 ≤ j) w2 w6 ∧ ∀ i < k + 1, goesP (readSeq l) (readOf l) i (l.getD i zB) = true := by
                intro hg v' w6 hs6 hu6 hb6
                obtain ⟨hu3, hsl, hfr, hu, hall, hU, hN, ho1, ho2, hk, hzr⟩ := H3.out
                obtain ⟨hb5, hu5, hz5, hM, hMs⟩ := HE5.out
                refine ⟨?_, hb6.ge (by have := hu3.size; have := hu5.size; omega) hfr, (hu.trans (((hu3.trans hu5).mono (fun _ _ h => h.elim)))).trans (hu6.mono (fun j _ hj => hfr j hj)), fun i hi => ?_⟩
                · rw [Nat.min_eq_left (by omega), entsTo_succ, List.length_append, List.flatMap_append, ← HBK.out.1, ← HPE.out, hel]
                  exact hs6
                · rcases Nat.lt_succ_iff_lt_or_eq.1 hi with h | rfl
                  · exact hall i h
                  · rw [← HBK.out.1]; exact hg
              have hsl5 : Sl w5 37 4 u7 (entsTo l k).length ((entsTo l k).flatMap entC) := by
                have := H3.out.2.1
                rw [Nat.min_eq_left (by omega)] at this
                exact this.keep (H3.out.1.trans HE5.out.2.1) (fun _ _ h => h)
              have hel4 : (entsTo l k).length ≤ 4 * k := by
                refine entsTo_le (of := k) (fun i hi => ?_) k (Nat.le_refl _)
                have := H3.out.2.2.2.2.1 i hi
                unfold goesP at this
                rw [if_neg (by omega)] at this
                exact (Bool.and_eq_true _ _ ▸ this).1
              have hrd : Rd w5 4 (.slice (some ⟨M, 4, none⟩) a3 a3) a3 (pe.flatMap entC) := by
                refine ⟨by rw [ents_len, hel], by unfold maxLen; omega, some ⟨M, 4, none⟩, a3, rfl, (fun h => by cases h), (fun b hb => ?_)⟩
                cases hb
                intro j u hj
                rw [Addr.add_lit]
                exact yr j u hj
              have hpe1 : ∀ u ∈ pe.flatMap entC, u.oneCell' = true := fun u hu => by
                obtain ⟨x, -, hx⟩ := List.mem_flatMap.1 hu
                exact entC_one x u hx
              have hofe : 1 ≤ readOf l ∧ readOf l ≤ 256 := ⟨HB.out.2.2.1, HB.out.2.2.2.1⟩
              obtain ⟨ie, ze, hie, hze, hz4, hi4, hi32⟩ := infoEnt4
              have HF := Lib.hid (And.intro hfin (And.intro hsl5 (And.intro hrd (And.intro hpe1 hel4))))
              have HGN := Lib.hid hgn
              clear hgn hfin hsl5 hrd hpe1 hel4 yr hel
              generalize goesP (readSeq l) (readOf l) k bk = gb at *
              generalize readSeq l = S0 at *
              generalize readOf l = F0 at *
              by_cases h0 : a0 = S0
              · subst h0
                by_cases h1 : a1 = k
                · subst h1
                  by_cases h2 : a2 = F0
                  · subst h2
                    simp only [beq_self_eq_true, Bool.true_and] at hgo
                    by_cases hl : a1 + 1 = a2
                    · subst hl
                      rw [if_pos rfl] at hgo
                      by_cases h3 : a3 = 0
                      · subst h3
                        by_cases h4 : 0 < a1
                        · have q6 : ((0 : Nat) : Int) < (a1 : Int) := by omega
                          have HN := Lib.hid (HGN.out (by rw [hgo, decide_eq_true h4]; rfl))
                          clear hgo
                          go_wp2_with fail
                          rw [Exit.noGoto_ret]
                          exact bodyPost_ret (v := .tuple #[.int .i64 0, .slice none 0 0, .bool false]) (by simp [results, Tryz.results99, go_sem]) rfl (EntsOut.no HN.out HE5.out.1)
                        · have q6 : ¬ ((0 : Nat) : Int) < (a1 : Int) := by omega
                          rw [decide_eq_false h4] at hgo
                          replace hgo : gb = true := hgo
                          have HF2 := Lib.hid (HF.out.1 hgo)
                          have HS := Lib.hid (And.intro HF.out.2.1 (And.intro HF.out.2.2.1 (And.intro HF.out.2.2.2.1 HF.out.2.2.2.2)))
                          clear hgo
                          go_wp2_with (first
                            | (at_builtin; refine wpList_append_sl rfl _ _ 22 rfl ie ze 32 Tryz.underlying22 hie hze hi4 hi32 hz4 (by decide) rfl HS.out.1 _ _ (pe.flatMap entC) rfl HS.out.2.1 HS.out.2.2.1 (by unfold maxLen; have := HS.out.2.2.2; omega) (by have := HS.out.2.2.2; omega) ?_)
                            | fail)
                          intro v' w6 hs6 hu6 hb6
                          have HZ := Lib.hid (HF2.out v' w6 hs6 hu6 hb6)
                          clear hs6 hu6 hb6
                          go_wp2_with fail
                          go_roundg (gk - 1)
                          case measure => have := H3.out.2.2.2.2.2.2.2.2.2.1; omega
                          case rel => exact ⟨a1 + 1, by have := H3.out.2.2.2.2.2.2.2.2.2.1; omega, by go_num, rfl, HZ.out.1, HZ.out.2.1, HZ.out.2.2.1, HZ.out.2.2.2⟩
                      · have q6 : ¬ ((a3 : Nat) : Int) = 0 := by omega
                        have b1 : (0 : Int) ≤ (a3 : Int) := by omega
                        have b2 : (a3 : Int) ≤ 4 := by omega
                        rw [show (a3 == 0) = false by simpa using h3] at hgo
                        replace hgo : gb = true := hgo
                        have HF2 := Lib.hid (HF.out.1 hgo)
                        have HS := Lib.hid (And.intro HF.out.2.1 (And.intro HF.out.2.2.1 (And.intro HF.out.2.2.2.1 HF.out.2.2.2.2)))
                        clear hgo
                        go_wp2_with (first
                          | (at_builtin; refine wpList_append_sl rfl _ _ 22 rfl ie ze 32 Tryz.underlying22 hie hze hi4 hi32 hz4 (by decide) rfl HS.out.1 _ _ (pe.flatMap entC) rfl HS.out.2.1 HS.out.2.2.1 (by unfold maxLen; have := HS.out.2.2.2; omega) (by have := HS.out.2.2.2; omega) ?_)
                          | fail)
                        intro v' w6 hs6 hu6 hb6
                        have HZ := Lib.hid (HF2.out v' w6 hs6 hu6 hb6)
                        clear hs6 hu6 hb6
                        go_wp2_with fail
                        go_roundg (gk - 1)
                        case measure => have := H3.out.2.2.2.2.2.2.2.2.2.1; omega
                        case rel => exact ⟨a1 + 1, by have := H3.out.2.2.2.2.2.2.2.2.2.1; omega, by go_num, rfl, HZ.out.1, HZ.out.2.1, HZ.out.2.2.1, HZ.out.2.2.2⟩
                    · rw [if_neg hl] at hgo
                      have q5 : ¬ ((a1 : Nat) : Int) = (a2 : Int) - 1 := by omega
                      by_cases h3 : a3 = 4
                      · subst h3
                        replace hgo : gb = true := hgo
                        have HF2 := Lib.hid (HF.out.1 hgo)
                        have HS := Lib.hid (And.intro HF.out.2.1 (And.intro HF.out.2.2.1 (And.intro HF.out.2.2.2.1 HF.out.2.2.2.2)))
                        clear hgo
                        go_wp2_with (first
                          | (at_builtin; refine wpList_append_sl rfl _ _ 22 rfl ie ze 32 Tryz.underlying22 hie hze hi4 hi32 hz4 (by decide) rfl HS.out.1 _ _ (pe.flatMap entC) rfl HS.out.2.1 HS.out.2.2.1 (by unfold maxLen; have := HS.out.2.2.2; omega) (by have := HS.out.2.2.2; omega) ?_)
                          | fail)
                        intro v' w6 hs6 hu6 hb6
                        have HZ := Lib.hid (HF2.out v' w6 hs6 hu6 hb6)
                        clear hs6 hu6 hb6
                        go_wp2_with fail
                        go_roundg (gk - 1)
                        case measure => have := H3.out.2.2.2.2.2.2.2.2.2.1; omega
                        case rel => exact ⟨a1 + 1, by have := H3.out.2.2.2.2.2.2.2.2.2.1; omega, by go_num, rfl, HZ.out.1, HZ.out.2.1, HZ.out.2.2.1, HZ.out.2.2.2⟩
                      · have q6 : ¬ ((a3 : Nat) : Int) = 4 := by omega
                        have HN := Lib.hid (HGN.out (by rw [hgo]; simpa using h3))
                        clear hgo
                        go_wp2_with fail
                        rw [Exit.noGoto_ret]
                        exact bodyPost_ret (v := .tuple #[.int .i64 0, .slice none 0 0, .bool false]) (by simp [results, Tryz.results99, go_sem]) rfl (EntsOut.no HN.out HE5.out.1)
                  · have q6 : ¬ ((a2 : Nat) : Int) = (F0 : Int) := by omega
                    have q7 : (a2 == F0) = false := by simpa using h2
                    simp only [beq_self_eq_true, Bool.true_and] at hgo
                    rw [q7] at hgo
                    have HN := Lib.hid (HGN.out hgo)
                    clear hgo
                    go_wp2_with fail
                    rw [Exit.noGoto_ret]
                    exact bodyPost_ret (v := .tuple #[.int .i64 0, .slice none 0 0, .bool false]) (by simp [results, Tryz.results99, go_sem]) rfl (EntsOut.no HN.out HE5.out.1)
                · have q6 : ¬ ((a1 : Nat) : Int) = (k : Int) := by omega
                  have q7 : (a1 == k) = false := by simpa using h1
                  simp only [beq_self_eq_true, Bool.true_and] at hgo
                  rw [q7] at hgo
                  have HN := Lib.hid (HGN.out hgo)
                  clear hgo
                  go_wp2_with fail
                  rw [Exit.noGoto_ret]
                  exact bodyPost_ret (v := .tuple #[.int .i64 0, .slice none 0 0, .bool false]) (by simp [results, Tryz.results99, go_sem]) rfl (EntsOut.no HN.out HE5.out.1)
              · have q6 : ¬ ((a0 : Nat) : Int) = (S0 : Int) := by omega
                have q7 : (a0 == S0) = false := by simpa using h0
                rw [q7] at hgo
                have HN := Lib.hid (HGN.out hgo)
                clear hgo h0
                go_wp2_with fail
                rw [Exit.noGoto_ret]
                exact bodyPost_ret (v := .tuple #[.int .i64 0, .slice none 0 0, .bool false]) (by simp [results, Tryz.results99, go_sem]) rfl (EntsOut.no HN.out HE5.out.1)
        · obtain rfl : k = l.length := by omega
          have k1 : ¬ ((l.length : Int) < (l.length : Int)) := by omega
          have hro : readOk l = true := by
            unfold readOk
            rw [← hb0, hok, decide_eq_true hle, Bool.true_and, Bool.true_and, List.all_eq_true]
            exact fun i hi => hall i (List.mem_range.1 hi)
          rw [Nat.min_eq_right hle] at hsl
          have hz : EntsOut w l (.returned (.tuple #[.int .i64 (readSeq l : Int), u7, .bool true])) wr :=
            ⟨u7, by rw [hro]; rfl, by rw [hro]; exact hsl, hfr.mono (by omega), below_upd (Below.refl _ w) hU (Nat.le_refl _) (fun _ h => h)⟩
          have HZ := Lib.hid hz
          clear hz hro hsl hfr hu hall hU hrow hl h64 hN hb0 hal' hZl hu2 g2 z2 hge gg2 ho1 ho2 hok
          go_wp2_with fail
          try rw [Exit.noGoto_ret]
          exact bodyPost_ret (v := .tuple #[.int .i64 (readSeq l : Int), u7, .bool true]) (by simp [results, Tryz.results99, go_sem]) rfl HZ.out
    · have q2 : ((l.length : Int) < (readOf l : Int)) := by omega
      have hno : readOk l = false := by unfold readOk; rw [decide_eq_false hle]; simp
      have HN := Lib.hid hno
      clear hno hle
      go_wp2_with fail
      rw [Exit.noGoto_ret]
      exact bodyPost_ret (v := .tuple #[.int .i64 0, .slice none 0 0, .bool false]) (by simp [results, Tryz.results99, go_sem]) rfl (EntsOut.no HN.out (Upd.below H2.out.1))
def JrAt (w : World) (j : Nat) (d : Nat) (base n seq next : Int) : Prop :=
  w.cell? ⟨j, 0, none⟩ = some (.pointer (some ⟨d, 0, none⟩)) ∧ w.cell? ⟨j, 1, none⟩ = some (.int .i64 base) ∧ w.cell? ⟨j, 2, none⟩ = some (.int .i64 n) ∧
    w.cell? ⟨j, 3, none⟩ = some (.int .i64 seq) ∧ w.cell? ⟨j, 4, none⟩ = some (.int .i64 next)
theorem jnext (w : World) (j d : Nat) (base n seq next : Int) (h : JrAt w j d base n seq next) :
    Calls Tryz.prog 154 #[.pointer (some ⟨j, 0, none⟩)] w fun e w' => e = .returned (.int .i64 next) ∧ w = w' := by
  obtain ⟨h0, h1, h2, h3, h4⟩ := h
  go_enter Tryz.func154, Tryz.ntmps154
  go_wp2
  go_ret
  exact ⟨rfl, rfl⟩
theorem jmay_ok {S : Nat → Prop} {w : World} {b : Nat} {F : List Bk} {O : List (Nat × Bk)} {P : List Int} (h : Dv S w b F O P) (base n : Nat) (h1 : 1 ≤ n) (h2 : n ≤ 1024) (h3 : base + n ≤ F.length) (h4 : F.length ≤ 4096) :
    Calls Tryz.prog 103 #[.pointer (some ⟨b, 0, none⟩), .int .i64 (base : Int), .int .i64 (n : Int)] w fun e w' => e = .returned (.int .i64 0) ∧ w = w' := by
  have q1 : decide ((base : Int) < 0) = false := by simp
  have q2 : decide ((n : Int) < 1) = false := by simp; omega
  have q3 : decide ((n : Int) > 1024) = false := by simp; omega
  have q3' : decide (1024 < (n : Int)) = false := by simp; omega
  have q4 : decide ((base : Int) > F.length - n) = false := by simp; omega
  have q4' : decide ((F.length : Int) - n < (base : Int)) = false := by simp; omega
  go_enter Tryz.func103, Tryz.ntmps103
  go_wp2_with (first
    | (go_at_call 47; refine (dsize h).mono ?_; rintro e w' ⟨rfl, rfl⟩)
    | fail)
  go_ret
  exact ⟨rfl, rfl⟩
def secL (base n k : Nat) : List Int := (List.range n).map fun i => if i < k then ((base + i : Nat) : Int) else 0
theorem secL_len (base n k : Nat) : (secL base n k).length = n := by simp [secL]
theorem secL_zero (base n : Nat) : secL base n 0 = List.replicate n 0 := by
  apply List.ext_getElem
  · simp [secL]
  · intro i h1 h2; simp [secL]
theorem secL_set (base n : Nat) {k : Nat} (_hk : k < n) : (secL base n k).set k ((base + k : Nat) : Int) = secL base n (k + 1) := by
  apply List.ext_getElem
  · simp [secL]
  · intro i h1 h2
    rw [List.getElem_set]
    simp only [secL, List.getElem_map, List.getElem_range]
    by_cases h : k = i
    · subst h; simp
    · rw [if_neg h]
      by_cases hl : i < k
      · rw [if_pos hl, if_pos (by omega)]
      · rw [if_neg hl, if_neg (by omega)]
set_option maxRecDepth 100000 in
set_option maxHeartbeats 1000000 in
theorem jsectors (base n : Nat) (hn : n ≤ 1024) (hb : base ≤ 4096) (w : World) :
    Calls Tryz.prog 105 #[.int .i64 (base : Int), .int .i64 (n : Int)] w fun e w' => ∃ g, e = .returned (.slice (some ⟨g, 0, none⟩) n n) ∧ w'.heap[g]? = some (.cells (ints (secL base n n)).toArray 3 (0, 0)) ∧ w.heap.size ≤ g ∧ Below w.heap.size w w' := by
  have hmk := makeInts n (by omega) w
  obtain ⟨w1, hw1⟩ : ∃ w1, w1 = w.alloc (.cells (ints (List.replicate n 0)).toArray 3) := ⟨_, rfl⟩
  have hg := heap_alloc_last w (.cells (ints (List.replicate n 0)).toArray 3) rfl
  have hb1 : Below w.heap.size w w1 := by rw [hw1]; exact (Below.refl _ w).alloc (Nat.le_refl _) _
  rw [← hw1, ← secL_zero base n] at hg
  have HW := Lib.hid (And.intro hw1 (And.intro hg hb1))
  obtain ⟨G, hG⟩ : ∃ G, G = w.heap.size := ⟨_, rfl⟩
  have HGG := Lib.hid hG
  clear hg hb1 hw1 hG
  go_enter Tryz.func105, Tryz.ntmps105
  go_upto_region 2 with fail
  rw [← HW.out.1, ← HGG.out]
  clear hmk
  go_wp2_with fail
  go_loopg [11] n (fun gk s11 wr => ∃ k : Nat, k + gk = n ∧ s11 = .int .i64 (k : Int) ∧ wr.heap[G]? = some (.cells (ints (secL base n k)).toArray 3 (0, 0)) ∧ Upd (fun j => j = G) w1 wr)
  case atStart => exact ⟨0, by omega, rfl, by rw [HGG.out]; exact HW.out.2.1, Upd.refl _ _⟩
  case round =>
    obtain ⟨k, hk, rfl, hg, hu⟩ := hrel
    by_cases hlt : k < n
    · have k1 : (k : Int) < (n : Int) := by omega
      have k0 : (0 : Int) ≤ (k : Int) := by omega
      have f0 := frozen_of_block hg k
      have c0 : ∃ v, wr.cell? ⟨G, k, none⟩ = some v := by
        rw [cell_of_block hg, Array.getElem?_eq_getElem (by rw [List.size_toArray, length_ints, secL_len]; omega)]
        exact ⟨_, rfl⟩
      obtain ⟨v0, c0⟩ := c0
      have hgs := heap_setCell_same hg k (.int .i64 ((base + k : Nat) : Int))
      rw [List.setIfInBounds_toArray, ints_set, secL_set base n hlt] at hgs
      have hus := hu.trans (upd_setCell wr G k (.int .i64 ((base + k : Nat) : Int)))
      have e1 : ((base + k : Nat) : Int) = (base : Int) + (k : Int) := by simp
      rw [e1] at hgs hus
      have HN := Lib.hid (And.intro hgs hus)
      clear hg hu hgs hus e1
      go_wp2_with fail
      go_roundg (gk - 1)
      case measure => omega
      case rel => exact ⟨k + 1, by omega, by go_num, HN.out.1, HN.out.2⟩
    · obtain rfl : k = n := by omega
      have k1 : ¬ ((k : Int) < (k : Int)) := by omega
      have HN := Lib.hid (And.intro hg hu)
      clear hg hu
      go_wp2_with fail
      go_ret
      exact ⟨G, rfl, HN.out.1, Nat.le_of_eq HGG.out.symm, below_upd HW.out.2.2 HN.out.2 (Nat.le_refl _) (fun j hj => Nat.le_of_eq (by rw [hj, HGG.out]))⟩
def zeroR : List Value := [Value.int .i64 0, .int .i64 0, .int .i64 0, .int .i64 0, .int .i64 0, .bool false, .int .i64 0]
theorem zR_one : (zeroR.toArray).all (·.oneCell') = true := by simp [zeroR, Value.oneCell']
set_option maxRecDepth 100000 in
set_option maxHeartbeats 2000000 in
theorem getR_any {w : World} (b : Bk) (hb : b.length = 64) (k : Nat) (ss : List Nat) (hss : (∀ s ∈ ss, 1 ≤ s ∧ s ≤ 7) ∧ ss.sum ≤ 59) (m : Nat) (hm : ss.length = m) (hm2 : m ≤ 100) (gs cl : Nat) (fm fb : Nat) (cm cb : Array Value) (tv : Value) (mb : Bool) (ds : List Value)
    (hds : (Tryz.prog.info? 101).map (·.size) = some ds.length) (hd1 : ∀ v ∈ ds, v.oneCell' = true) (hs : w.rangeAt gs 0 (ints (natsI ss))) (hN : Nib w)
    (entM : ∀ args w, (callFunc fm args).run Tryz.prog w = .ok (.enter fm args) w) (entB : ∀ args w, (callFunc fb args).run Tryz.prog w = .ok (.enter fb args) w)
    (hmay : ∀ W gl c, c = m → Below w.heap.size w W → W.rangeAt gl 0 (ints (natsI (numsAt b 1 ss))) → Calls Tryz.prog fm (#[.slice (some ⟨gl, 0, none⟩) m c] ++ cm) W fun e W' => e = .returned (.bool mb) ∧ Below W.heap.size W W')
    (hbuild : okGet b k ss mb = true → ∀ W gl c, c = m → Below w.heap.size w W → W.rangeAt gl 0 (ints (natsI (numsAt b 1 ss))) → Calls Tryz.prog fb (#[.slice (some ⟨gl, 0, none⟩) m c] ++ cb) W fun e W' => e = .returned (.agg ds.toArray) ∧ Below W.heap.size W W') :
    Calls Tryz.prog 177 #[.agg #[.int .i64 (k : Int), .slice (some ⟨gs, 0, none⟩) m cl, tv, .func (.func fm) #[] cm, .func (.func fb) #[] cb], .agg (bkC b).toArray] w
      (GetPost w (okGet b k ss mb) ds zeroR (cdGet b k ss mb)) := by
  have H := Lib.hid (And.intro hs (And.intro hN (And.intro hmay (And.intro hbuild (And.intro hss hm)))))
  have HC := Lib.hid (And.intro hds (And.intro hd1 hb))
  clear hs hN hmay hbuild hss hm hds hd1 hb
  have hr : ((w.alloc (.cells #[.int .i64 (k : Int), .slice (some ⟨gs, 0, none⟩) m cl, tv, .func (.func fm) #[] cm, .func (.func fb) #[] cb] 296)).alloc (.cells (bkC b).toArray 54)).rangeAt (w.heap.size + 1) 0 (bkC b) := range_of_block (heap_alloc_last _ _ (by simp))
  go_enter Tryz.func177, Tryz.ntmps177
  go_wp2_with (first
    | (refine wpList_load_mid rfl _ _ rfl _ _ rfl _ _ (World.rangeAt_alloc (World.rangeAt_alloc hr _) _) Tryz.underlying54 rfl (sizeBk _ HC.out.2.2) ?_)
    | fail)
  show Calls _ _ _ ((((w.alloc (.cells #[.int .i64 (k : Int), .slice (some ⟨gs, 0, none⟩) m cl, tv, .func (.func fm) #[] cm, .func (.func fb) #[] cb] 296)).alloc (.cells (bkC b).toArray 54)).alloc (.cells zeroR.toArray 101)).alloc (.cells zeroR.toArray 101)) _
  obtain ⟨Z, hZ⟩ : ∃ Z : List Value, Z = zeroR := ⟨_, rfl⟩
  rw [← hZ]
  have hZs : Hid (Z.toArray.size = 7) := by show _ = _; rw [hZ]; rfl
  have hZl : Hid (Z.length = 7) := by show _ = _; rw [hZ]; rfl
  have hsZ : Hid ((Tryz.prog.info? 101).map (·.size) = some Z.length) := by show _ = _; rw [hZ]; exact infoThR
  have hsA : Hid ((Tryz.prog.info? 101).map (·.size) = some Z.toArray.size) := by show _ = _; rw [hZ]; exact infoThR
  have hZ1 : Hid ((Z.toArray).all (·.oneCell') = true) := by show _ = _; rw [hZ]; exact zR_one
  have HZ := Lib.hid hZ
  clear hZ
  obtain ⟨h1, h2, h3, h4, h5, h6⟩ := four_new w (.cells #[.int .i64 (k : Int), .slice (some ⟨gs, 0, none⟩) m cl, tv, .func (.func fm) #[] cm, .func (.func fb) #[] cb] 296) (.cells (bkC b).toArray 54) (.cells Z.toArray 101) (.cells Z.toArray 101)
  clear hr
  generalize (((w.alloc (.cells #[.int .i64 (k : Int), .slice (some ⟨gs, 0, none⟩) m cl, tv, .func (.func fm) #[] cm, .func (.func fb) #[] cb] 296)).alloc (.cells (bkC b).toArray 54)).alloc (.cells Z.toArray 101)).alloc (.cells Z.toArray 101) = w4 at *
  refine (sealed_any b HC.out.2.2 (H.out.2.1.keep h6 (fun h => h))).mono ?_
  rintro e w5 ⟨rfl, hb5⟩
  have hu5 : Upd (fun _ => False) w4 w5 := Upd.of_below hb5
  have g1 := (hu5.block _ (lt_of_block h1) (fun h => h)).trans h1
  have g2 := (hu5.block _ (lt_of_block h2) (fun h => h)).trans h2
  have g3 := (hu5.block _ (lt_of_block h3) (fun h => h)).trans h3
  have g4 := (hu5.block _ (lt_of_block h4) (fun h => h)).trans h4
  have hz5 := hu5.size
  have H5 := Lib.hid (And.intro g1 (And.intro g2 (And.intro g3 (And.intro g4 (And.intro (h6.trans hu5) (And.intro h5 hz5))))))
  clear h1 h2 h3 h4 h5 h6 g1 g2 g3 g4 hu5 hb5 hz5
  by_cases hsl : sealB b = b
  · have hsc : sealedC b = 0 := if_pos hsl
    rw [hsc]
    clear hsc
    have HS := Lib.hid hsl
    clear hsl
    obtain ⟨g1, g2, g3, g4, u5, z4, z5⟩ := H5.out
    have r5 := range_of_block g2
    clear g1 g2 g3 g4 u5
    go_wp2_with (first
      | (refine wpList_load_mid rfl _ _ rfl _ _ rfl _ _ r5 Tryz.underlying54 rfl (sizeBk _ HC.out.2.2) ?_)
      | fail)
    refine (rread b HC.out.2.2).mono ?_
    rintro e w6 ⟨g, rfl, hR6, hge, hb6⟩
    have HX := Lib.hid (And.intro hR6 hb6)
    clear hR6 hb6
    go_wp2_with fail
    refine (rtake HX.out.1 1 (by decide) (by decide) (by decide)).mono ?_
    rintro e w7 ⟨rfl, hR7, hU7⟩
    obtain ⟨kb, hkb⟩ : ∃ kb, kb = numB ((b.drop 0).take 1) := ⟨_, rfl⟩
    rw [← hkb]
    have HK := Lib.hid hkb
    clear hkb
    obtain ⟨g1, g2, g3, g4, u5, z4, z5⟩ := H5.out
    obtain ⟨hs, hN, -, -, hss, hm⟩ := H.out
    have u57 : Upd (fun j => j = g) w5 w7 := ((Upd.of_below (S := fun _ => False) HX.out.2).mono (fun _ _ h => h.elim)).trans hU7
    have u7 : Upd (fun j => j = g) w w7 := (u5.mono (fun _ _ h => h.elim)).trans u57
    have hM7 : w.heap.size + 4 ≤ w7.heap.size := by have := u57.size; omega
    have gM : w.heap.size + 4 ≤ g := by omega
    have m1 : w7.cell? ⟨w.heap.size, 1, none⟩ = some (.slice (some ⟨gs, 0, none⟩) m cl) := u57.cellv (cell_of_block g1 1) (by omega)
    have a1 := (u57.block _ (lt_of_block g1) (by omega)).trans g1
    have a3 := (u57.block _ (lt_of_block g3) (by omega)).trans g3
    have a4 := (u57.block _ (lt_of_block g4) (by omega)).trans g4
    have gslt : gs < w.heap.size ∨ m = 0 := by
      rcases Nat.eq_zero_or_pos m with h | h
      · exact .inr h
      · exact .inl (World.block_lt_of_cell? w _ (hs 0 _ (natsI_get (by omega))))
    have hs7 : ∀ i (hi : i < ss.length), w7.cell? ⟨gs, i, none⟩ = some (.int .i64 (ss[i] : Int)) := fun i hi => by
      have := u7.cellv (hs i _ (natsI_get hi)) (by omega)
      rwa [Nat.zero_add] at this
    have hua : Upd (fun _ => False) w7 (w7.alloc (.cells (ints (List.replicate m 0)).toArray 3)) := (Upd.refl _ _).alloc _
    have hgL := heap_alloc_last w7 (.cells (ints (List.replicate m 0)).toArray 3) rfl
    have hmk := makeInts m (by omega) w7
    have hR8 := hR7.keep hua (fun h => h)
    have hglt := hR7.lt
    have m18 : (w7.alloc (.cells (ints (List.replicate m 0)).toArray 3)).cell? ⟨w.heap.size, 1, none⟩ = some (.slice (some ⟨gs, 0, none⟩) m cl) := hua.cellv m1 (fun h => h)
    have H8 := Lib.hid (And.intro hua (And.intro hgL (And.intro hR8 (And.intro a1 (And.intro a3 (And.intro a4 (And.intro hs7 (And.intro gslt (And.intro u7 (And.intro hss (And.intro hm hN)))))))))))
    clear g1 g2 g3 g4 u5 z4 hs hN hss hm u57 u7 a1 a3 a4 gslt hs7 hua hgL hR8 hU7 hR7 r5 z5
    go_wp2
    clear hmk m1
    generalize hW8 : w7.alloc (.cells (ints (List.replicate m 0)).toArray 3) = w8 at *
    have HW8 := Lib.hid hW8
    clear hW8
    generalize hL : w7.heap.size = L at *
    have HL := Lib.hid hL
    clear hL
    go_loopw [30] (fun s30 wr => ∃ i : Nat, i ≤ m ∧ s30 = .int .i64 i ∧ RdAt wr g b (1 + (ss.take i).sum) ∧ wr.heap[L]? = some (.cells (ints (fillI (numsAt b 1 ss) i)).toArray 3 (0, 0)) ∧ Upd (fun j => j = g ∨ j = L) w8 wr) (fun s30 _ => m - (intOf s30).toNat)
    case atStart => exact ⟨0, Nat.zero_le _, rfl, by simpa using H8.out.2.2.1, by rw [H8.out.2.1]; simp [fillI, natsI, numsAt_len, H8.out.2.2.2.2.2.2.2.2.2.2.1], Upd.refl _ _⟩
    case round =>
      obtain ⟨i, hi, rfl, hR, hL, hu⟩ := hrel
      obtain ⟨hua, hgL, hR8, a1, a3, a4, hs7, gslt, u7, hss, hm, hN⟩ := H8.out
      by_cases hlt : i < m
      · have hil : i < ss.length := by omega
        have x1 : wr.cell? ⟨gs, i, none⟩ = some (.int .i64 (ss[i] : Int)) := hu.cellv (hua.cellv (hs7 i hil) (fun h => h)) (by omega)
        have hsi := hss.1 ss[i] (List.getElem_mem hil)
        obtain ⟨t1, t2⟩ := sum_take ss hil
        have hng : ¬ L = g := by omega
        have hcx : ∃ v, wr.cell? ⟨L, i, none⟩ = some v := by
          rw [cell_of_block hL]
          exact ⟨_, Array.getElem?_eq_getElem (by rw [List.size_toArray, length_ints, fillI_len _ (by rw [numsAt_len]; omega), numsAt_len]; omega)⟩
        have hnx : Hid ((ints (fillI (numsAt b 1 ss) i)).toArray.setIfInBounds i (.int .i64 ((numB ((b.drop (1 + (ss.take i).sum)).take ss[i]) : Nat) : Int)) = (ints (fillI (numsAt b 1 ss) (i + 1))).toArray) := by
          show _ = _
          rw [List.setIfInBounds_toArray, ints_set, ← numsAt_get b 1 ss i hil, fillI_set _ (by rw [numsAt_len]; exact hil)]
        have hsum : Hid (1 + (ss.take (i + 1)).sum = 1 + (ss.take i).sum + ss[i]) := by show _ = _; omega
        have b1 : (0 : Int) ≤ (i : Int) ∧ (i : Int) < (m : Int) := by omega
        have hbd : 1 + (ss.take i).sum + ss[i] ≤ 60 := by omega
        have HX2 := Lib.hid (And.intro hR (And.intro hL (And.intro hu (And.intro hsi (And.intro hbd hcx)))))
        clear hua hgL hR8 a1 a3 a4 hs7 gslt u7 hss hm hN t1 t2 hR hL hu hcx hbd hsi
        obtain ⟨b1, b2⟩ := b1
        generalize ss[i] = si at *
        go_wp2_with fail
        refine (rtake HX2.out.1 si HX2.out.2.2.2.1.1 HX2.out.2.2.2.1.2 HX2.out.2.2.2.2.1).mono ?_
        rintro e w9 ⟨rfl, hR9, hU9⟩
        have hL9 := (hU9.block L (lt_of_block HX2.out.2.1) hng).trans HX2.out.2.1
        obtain ⟨v0, hv0⟩ := HX2.out.2.2.2.2.2
        have c9 := hU9.cellv hv0 hng
        have z9 := frozen_of_block hL9 i
        have hL10 := heap_setCell_same hL9 i (.int .i64 ((numB ((b.drop (1 + (ss.take i).sum)).take si) : Nat) : Int))
        rw [hnx.out] at hL10
        have hR10 := hR9.keep (upd_setCell w9 L i (.int .i64 ((numB ((b.drop (1 + (ss.take i).sum)).take si) : Nat) : Int))) (fun e => hng e.symm)
        rw [← hsum.out] at hR10
        have hU10 : Upd (fun j => j = g ∨ j = L) w8 (w9.setCell ⟨L, i, none⟩ (.int .i64 ((numB ((b.drop (1 + (ss.take i).sum)).take si) : Nat) : Int))) :=
          HX2.out.2.2.1.trans ((hU9.mono (fun _ _ h => .inl h)).trans ((upd_setCell _ _ _ _).mono (fun _ _ h => .inr h)))
        have HZ := Lib.hid (And.intro hR10 (And.intro hL10 hU10))
        clear hL9 hv0 hL10 hR10 hU10 hU9 hR9
        go_wp2
        go_roundw
        case rel => exact ⟨i + 1, by omega, by go_num, HZ.out.1, HZ.out.2.1, HZ.out.2.2⟩
        case measure => simp [intOf]; omega
      · obtain rfl : i = m := by omega
        rw [List.take_of_length_le (by omega)] at hR
        have hl5 : i = (numsAt b 1 ss).length := by rw [numsAt_len]; omega
        rw [show fillI (numsAt b 1 ss) i = natsI (numsAt b 1 ss) by rw [hl5]; exact fillI_all _] at hL
        clear hl5
        have u8r : Upd (fun j => j = g ∨ j = L) w7 wr := (hua.mono (fun _ _ h => h.elim)).trans hu
        have hLw : w.heap.size + 4 ≤ L := hM7
        have hlw : Below w.heap.size w wr := by
          refine below_upd (below_upd (Below.refl _ w) u7 (Nat.le_refl _) (fun k e => by omega)) u8r (Nat.le_refl _) (fun k e => by omega)
        have e1 := (u8r.block _ (lt_of_block a1) (by omega)).trans a1
        have e3 := (u8r.block _ (lt_of_block a3) (by omega)).trans a3
        have e4 := (u8r.block _ (lt_of_block a4) (by omega)).trans a4
        have hErr : ∀ W, Below wr.heap.size wr W → W.rangeAt (w.heap.size + 1 + 1 + 1) 0 Z ∧ W.there (w.heap.size + 1 + 1) 0 7 ∧ Below w.heap.size w W := fun W hW => by
          have f3 := (hW.block _ (lt_of_block e3)).trans e3
          refine ⟨range_of_block ((hW.block _ (lt_of_block e4)).trans e4), fun j hj => ?_, hlw.trans (hW.mono hlw.size)⟩
          rw [cell_of_block f3, frozen_of_block f3]
          exact ⟨by rw [Nat.zero_add, Array.getElem?_eq_getElem (by have := hZl.out; simp; omega)]; rfl, rfl⟩
        have m0 : wr.cell? ⟨w.heap.size, 0, none⟩ = some (.int .i64 (k : Int)) := cell_of_block e1 0
        have m3 : wr.cell? ⟨w.heap.size, 3, none⟩ = some (.func (.func fm) #[] cm) := cell_of_block e1 3
        have m4 : wr.cell? ⟨w.heap.size, 4, none⟩ = some (.func (.func fb) #[] cb) := cell_of_block e1 4
        have HE := Lib.hid (And.intro hErr (And.intro m3 (And.intro m4 (And.intro hR (And.intro (range_of_block hL) hlw)))))
        obtain ⟨rz, tz, hbz⟩ := hErr wr (Below.refl _ _)
        clear hua hgL hR8 a1 a3 a4 hs7 gslt u7 hss hm hN hR hL hu u8r hlw e1 e3 e4 hErr m3 m4
        by_cases hkk : kb = k
        · have hq : ((kb : Int) == (k : Int)) = true := by rw [hkk]; simp
          have hq2 : ((kb : Int) != (k : Int)) = false := by rw [hkk]; simp
          have HKK := Lib.hid hkk
          clear hkk rz tz hbz
          go_wp2_with fail
          refine (rend HE.out.2.2.2.1).mono ?_
          rintro e w10 ⟨rfl, hb10⟩
          obtain ⟨rz, tz, hbz⟩ := HE.out.1 w10 hb10
          have m3 := (Upd.of_below (S := fun _ => False) hb10).cellv HE.out.2.1 (fun h => h)
          have m4 := (Upd.of_below (S := fun _ => False) hb10).cellv HE.out.2.2.1 (fun h => h)
          have rL := Below.range hb10 HE.out.2.2.2.2.1
          have H10 := Lib.hid (And.intro hb10 (And.intro rL m4))
          clear rL m4 hb10
          have HBz := Lib.hid hbz
          clear hbz
          by_cases hen : endB b (1 + ss.sum) = true
          · have he0 : endC b (1 + ss.sum) = 0 := if_pos hen
            rw [he0]
            clear he0 rz tz
            have HEN := Lib.hid hen
            clear hen
            go_wp2_with fail
            refine (H.out.2.2.1 w10 L i rfl HBz.out H10.out.2.1).mono ?_
            rintro e w11 ⟨rfl, hb11⟩
            obtain ⟨rz, tz, hbz11⟩ := HE.out.1 w11 (H10.out.1.trans (hb11.mono H10.out.1.size))
            have m4 := (Upd.of_below (S := fun _ => False) hb11).cellv H10.out.2.2 (fun h => h)
            have rL := Below.range hb11 H10.out.2.1
            have HBz11 := Lib.hid hbz11
            have HRL := Lib.hid rL
            have HBz11b := Lib.hid hb11
            clear rL hbz11 hb11
            cases mb with
            | true =>
              have HR : Hid (okGet b k ss true = true) := by
                show _ = _
                simp only [okGet, HS.out, HEN.out, decide_true, Bool.true_and, Bool.and_true, decide_eq_true_eq]
                have := HK.out
                rw [List.drop_zero] at this
                rw [← this, HKK.out]
              clear rz tz
              go_wp2_with fail
              refine (H.out.2.2.2.1 HR.out w11 L i rfl HBz11.out HRL.out).mono ?_
              rintro e w12 ⟨rfl, hb12⟩
              obtain ⟨-, tz, hbz12⟩ := HE.out.1 w12 ((H10.out.1.trans ((HBz11b.out).mono H10.out.1.size)).trans (hb12.mono (by have := H10.out.1.size; have := HBz11b.out.size; omega)))
              have hdl : ds.length = 7 := by have h1 := HC.out.1; rw [infoThR] at h1; injection h1 with h1; exact h1.symm
              have hst : w12.there (w.heap.size + 1 + 1) 0 ds.toArray.size := by rw [show ds.toArray.size = 7 by simpa using hdl]; exact tz
              have hst2 : w12.there (w.heap.size + 1 + 1) 0 ds.length := by rw [hdl]; exact tz
              have hsz2 : (Tryz.prog.info? 101).map (·.size) = some ds.toArray.size := by rw [show ds.toArray.size = 7 by simpa using hdl]; exact infoThR
              have HST := Lib.hid (And.intro hst (And.intro hsz2 (And.intro hst2 hbz12)))
              clear hst hsz2 hst2 hdl hbz12 tz hb12
              go_wp2_with (first
                | (refine wpList_store_mid rfl _ _ _ rfl _ _ ds.toArray rfl rfl HST.out.1 HST.out.2.1 (all_oneCell_toArray HC.out.2.1) ?_)
                | fail)
              exact bodyPost_ret (results_mid2 rfl _ _ (w.heap.size + 1 + 1) 0 ds _ rfl (World.rangeAt_setCells_same _ _ _ _ HST.out.2.2.1) Tryz.underlying101 rfl HC.out.1) rfl
                ⟨⟨ds, fun _ => rfl, fun h => (by rw [HR.out] at h; cases h), by rw [show cdGet b k ss true = 0 from if_pos HR.out]; rfl⟩, below_upd HST.out.2.2.2 (upd_row _ (w.heap.size + 1 + 1) 0 _) (Nat.le_refl _) (fun k e => by omega)⟩
            | false =>
              have HR : Hid (okGet b k ss false = false) := by show _ = _; simp [okGet]
              go_wp2_with (first
                | (refine wpList_load_mid rfl _ _ rfl _ _ rfl _ _ rz Tryz.underlying101 rfl hsZ.out ?_)
                | (refine wpList_store_mid rfl _ _ _ rfl _ _ Z.toArray rfl rfl (by rw [hZs.out]; exact tz) hsA.out hZ1.out ?_)
                | fail)
              exact bodyPost_ret (results_mid2 rfl _ _ (w.heap.size + 1 + 1) 0 Z _ rfl (World.rangeAt_setCells_same _ _ _ _ (by first | (rw [hZs.out]; exact tz) | (rw [hZl.out]; exact tz))) Tryz.underlying101 rfl hsZ.out) rfl
                ⟨⟨_, fun h => (by rw [HR.out] at h; cases h), fun _ => rfl, by rw [okGet_no HS.out HR.out, HZ.out]; rfl⟩, below_upd HBz11.out (upd_row _ (w.heap.size + 1 + 1) 0 _) (Nat.le_refl _) (fun k e => by omega)⟩
          · have he0 : endC b (1 + ss.sum) = 12 := if_neg hen
            rw [he0]
            clear he0
            have HR : Hid (okGet b k ss mb = false) := by show _ = _; simp [okGet, hen]
            clear hen
            go_wp2_with (first
              | (refine wpList_load_mid rfl _ _ rfl _ _ rfl _ _ rz Tryz.underlying101 rfl hsZ.out ?_)
              | (refine wpList_store_mid rfl _ _ _ rfl _ _ Z.toArray rfl rfl (by rw [hZs.out]; exact tz) hsA.out hZ1.out ?_)
              | fail)
            exact bodyPost_ret (results_mid2 rfl _ _ (w.heap.size + 1 + 1) 0 Z _ rfl (World.rangeAt_setCells_same _ _ _ _ (by first | (rw [hZs.out]; exact tz) | (rw [hZl.out]; exact tz))) Tryz.underlying101 rfl hsZ.out) rfl
              ⟨⟨_, fun h => (by rw [HR.out] at h; cases h), fun _ => rfl, by rw [okGet_no HS.out HR.out, HZ.out]; rfl⟩, below_upd HBz.out (upd_row _ (w.heap.size + 1 + 1) 0 _) (Nat.le_refl _) (fun k e => by omega)⟩
        · have hq : ((kb : Int) == (k : Int)) = false := by rw [beq_eq_false_iff_ne]; omega
          have hq2 : ((kb : Int) != (k : Int)) = true := by rw [bne_iff_ne]; omega
          have HR : Hid (okGet b k ss mb = false) := by
            show _ = _
            have := HK.out
            rw [List.drop_zero] at this
            simp [okGet, ← this, hkk]
          have HBz := Lib.hid hbz
          clear hkk hbz
          go_wp2_with (first
            | (refine wpList_load_mid rfl _ _ rfl _ _ rfl _ _ rz Tryz.underlying101 rfl hsZ.out ?_)
            | (refine wpList_store_mid rfl _ _ _ rfl _ _ Z.toArray rfl rfl (by rw [hZs.out]; exact tz) hsA.out hZ1.out ?_)
            | fail)
          exact bodyPost_ret (results_mid2 rfl _ _ (w.heap.size + 1 + 1) 0 Z _ rfl (World.rangeAt_setCells_same _ _ _ _ (by first | (rw [hZs.out]; exact tz) | (rw [hZl.out]; exact tz))) Tryz.underlying101 rfl hsZ.out) rfl
            ⟨⟨_, fun h => (by rw [HR.out] at h; cases h), fun _ => rfl, by rw [okGet_no HS.out HR.out, HZ.out]; rfl⟩, below_upd HBz.out (upd_row _ (w.heap.size + 1 + 1) 0 _) (Nat.le_refl _) (fun k e => by omega)⟩
  · have hsc : sealedC b = 13 := if_neg hsl
    have hres := okGet_seal (k := k) (ss := ss) (mb := mb) hsl
    rw [hsc]
    have HR := Lib.hid hres
    clear hsc hsl hres
    obtain ⟨g1, g2, g3, g4, u5, z4, z5⟩ := H5.out
    have r4 := range_of_block g4
    have hth : w5.there (w.heap.size + 1 + 1) 0 7 := fun j hj => by
      rw [cell_of_block g3, frozen_of_block g3]
      exact ⟨by rw [Nat.zero_add, Array.getElem?_eq_getElem (by have := hZl.out; simp; omega)]; rfl, rfl⟩
    have HU := Lib.hid u5
    clear g1 g2 g3 g4 u5 z4 z5
    go_wp2_with (first
      | (refine wpList_load_mid rfl _ _ rfl _ _ rfl _ _ r4 Tryz.underlying101 rfl hsZ.out ?_)
      | (refine wpList_store_mid rfl _ _ _ rfl _ _ Z.toArray rfl rfl (by rw [hZs.out]; exact hth) hsA.out hZ1.out ?_)
      | fail)
    refine bodyPost_ret (results_mid2 rfl _ _ (w.heap.size + 1 + 1) 0 Z _ rfl (World.rangeAt_setCells_same _ _ _ _ (by first | (rw [hZs.out]; exact hth) | (rw [hZl.out]; exact hth))) Tryz.underlying101 rfl hsZ.out) rfl
      ⟨⟨_, fun h => (by rw [HR.out.1] at h; cases h), fun _ => rfl, by rw [HR.out.2, HZ.out]; rfl⟩, below_upd (Upd.below HU.out) (upd_row w5 (w.heap.size + 1 + 1) 0 _) (Nat.le_refl _) (fun k e => by omega)⟩
end Go.Proofs.YtfhfbpmlnjdfoaaGreatDoor
