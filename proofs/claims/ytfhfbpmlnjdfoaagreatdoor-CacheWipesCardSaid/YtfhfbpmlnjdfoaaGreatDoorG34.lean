/- Pages: what sectors tell of a checkpoint (entries). Pages: Read of a checkpoint, where nothing is planned. What stands on a device behind a checkpoint that was flushed. -/
import Derived.Test.YtfhfbpmlnjdfoaaGreatDoorG33
import Derived.Test.YtfhfbpmlnjdfoaaGreatDoorG30
import Derived.Test.YtfhfbpmlnjdfoaaGreatDoorG24
import Derived.Test.YtfhfbpmlnjdfoaaGreatDoorG14
import Derived.Test.YtfhfbpmlnjdfoaaGreatDoorG02
import Derived.Test.YtfhfbpmlnjdfoaaGreatDoorG16
import Derived.Test.YtfhfbpmlnjdfoaaGreatDoorG31
import Derived.Test.YtfhfbpmlnjdfoaaGreatDoorG20
import Derived.Test.YtfhfbpmlnjdfoaaGreatDoorG18
namespace Go.Proofs.YtfhfbpmlnjdfoaaGreatDoor
open Go Go.RowKit
theorem infoEnt4 : ∃ i z, Tryz.prog.info? 37 = some i ∧ i.zero = some z ∧ z.cells.size = 4 ∧ i.size = 4 ∧ i.bytes = 32 := by
  have h : (Tryz.prog.info? 37).map (fun i => (i.zero.map (·.cells.size), i.size, i.bytes)) = some (some 4, 4, 32) := by kernel_rfl
  obtain ⟨i, hi, he⟩ := Option.map_eq_some_iff.1 h
  simp only [Prod.mk.injEq] at he
  obtain ⟨z, hz, hz2⟩ := Option.map_eq_some_iff.1 he.1
  exact ⟨i, z, hi, hz, hz2, he.2.1, he.2.2⟩
theorem row_of_rowC {w : World} {g o : Nat} {l : List Bk} (h : ∀ j u, (rowC l)[j]? = some u → w.cell? ⟨g, o + j, none⟩ = some u) (hl : All64 l) {k : Nat} (hk : k < l.length) : w.rangeAt g (o + k * 64) (bkC (l.getD k zB)) := by
  intro j v hj
  have e : l.getD k zB = l[k] := by rw [List.getD_eq_getElem?_getD, List.getElem?_eq_getElem hk]; rfl
  rw [e] at hj
  have hj' := (List.getElem?_eq_some_iff.1 hj).1
  rw [bkC_len, hl _ (List.getElem_mem hk)] at hj'
  rw [Nat.add_assoc]
  exact h _ v ((rowC_at hl hk hj').trans hj)
def EntsOut (w : World) (l : List Bk) (e : Ending) (w' : World) : Prop :=
  ∃ v, e = .returned (.tuple #[.int .i64 ((if readOk l then readSeq l else 0 : Nat) : Int), v, .bool (readOk l)]) ∧ Sl w' 37 4 v (if readOk l then readEs l else []).length ((if readOk l then readEs l else []).flatMap entC) ∧ From w.heap.size v ∧ Below w.heap.size w w'
theorem EntsOut.no {w w' : World} {l : List Bk} (h : readOk l = false) (hb : Below w.heap.size w w') : EntsOut w l (.returned (.tuple #[.int .i64 0, .slice none 0 0, .bool false])) w' :=
  ⟨.slice none 0 0, by rw [h]; rfl, by rw [h]; exact Sl.nil _ _ _, From.nil _ _ _, hb⟩
theorem cdP_no {b : Bk} (h : okP b = false) : (cdP b == 0) = false := by
  unfold okP at h
  unfold cdP cdGet
  rw [h]
  split
  · next h => cases h
  · split <;> decide
theorem cdP_ok {b : Bk} (h : okP b = true) : cdP b = 0 := by
  unfold okP at h
  unfold cdP cdGet
  rw [h]
  rfl
theorem entsTo_succ (l : List Bk) (k : Nat) : entsTo l (k + 1) = entsTo l k ++ pgEnts (l.getD k zB) := by simp [entsTo, List.range_succ]
theorem goes_no {l : List Bk} {k : Nat} (hk : k < l.length) (h : goesP (readSeq l) (readOf l) k (l.getD k zB) = false) : readOk l = false := by
  rw [← Bool.not_eq_true]
  intro e
  unfold readOk at e
  rw [Bool.and_eq_true, Bool.and_eq_true, List.all_eq_true] at e
  have := e.2.2 k (List.mem_range.2 hk)
  rw [h] at this; cases this
theorem entsTo_le {l : List Bk} {of : Nat} (h : ∀ i, i < of → okP (l.getD i zB) = true) : ∀ k, k ≤ of → (entsTo l k).length ≤ 4 * k
  | 0, _ => Nat.le_refl _
  | k + 1, hk => by
    rw [entsTo_succ, List.length_append]
    have h1 := entsTo_le h k (by omega)
    have h2 := (okP_bounds (h k (by omega))).2.2.2.2
    have : (pgEnts (l.getD k zB)).length = pgMany (l.getD k zB) := by simp [pgEnts]
    omega
set_option maxRecDepth 100000 in
set_option maxHeartbeats 4000000 in
theorem pentries {w : World} {v : Value} {l : List Bk} (hs : Rd w 64 v l.length (rowC l)) (hl : All64 l) (hpos : 0 < l.length) (hl1 : l.length ≤ 4096) (hN : Nib w) : Calls Tryz.prog 99 #[v] w (EntsOut w l) := by
  obtain ⟨g, o, cap, rfl, hg, hrow⟩ := hs.at hpos
  have hr0 := row_of_rowC hrow hl hpos
  rw [Nat.zero_mul, Nat.add_zero] at hr0
  have h64 : ∀ k, (l.getD k zB).length = 64 := fun k => by
    rw [List.getD_eq_getElem?_getD]
    cases h : l[k]? with
    | none => rfl
    | some x => exact hl x (List.mem_of_getElem? h)
  obtain ⟨b0, hb0⟩ : ∃ b0, b0 = l.getD 0 zB := ⟨_, rfl⟩
  have h640 : b0.length = 64 := by rw [hb0]; exact h64 0
  rw [← hb0] at hr0
  have HG := Lib.hid (GetP_any hN b0 h640)
  have q0 : (0 : Int) < (l.length : Int) := by omega
  have hsz := sizeBk b0 h640
  obtain ⟨Z, hZ⟩ : ∃ Z, Z = dsPk [] 0 := ⟨_, rfl⟩
  have hal := allocPg
  simp only [← hZ] at hal
  have hZl : Z.toArray.size = 20 := by rw [hZ, List.size_toArray, dsPk_len]
  have HR := Lib.hid (And.intro hrow (And.intro hl (And.intro h64 (And.intro hN (And.intro hb0 (And.intro hal hZl))))))
  clear hrow hl h64 hN hb0 hs hZ hZl
  go_enter Tryz.func99, Tryz.ntmps99
  go_wp2
  go_step3
  go_wp2_with (first
    | (refine wpList_load_mid rfl _ _ rfl _ _ rfl _ _ hr0 Tryz.underlying54 rfl hsz ?_)
    | fail)
  refine HG.out.mono ?_
  rintro e w1 ⟨⟨rs, hr1, hr2, rfl⟩, hb1⟩
  have hrl : rs.length = 20 ∧ ∀ v ∈ rs, v.oneCell' = true := by
    cases hk : okP b0 with
    | true => rw [hr1 hk]; exact ⟨dsP_len _, dsP_one _⟩
    | false => rw [hr2 hk]; exact ⟨rfl, List.all_eq_true.1 (by simp [zeroP, Value.oneCell'] : zeroP.all (·.oneCell') = true)⟩
  obtain ⟨w2, hw2⟩ : ∃ w2, w2 = w1.alloc (.cells rs.toArray 280) := ⟨_, rfl⟩
  have hu2 : Upd (fun _ => False) w w2 := by rw [hw2]; exact (Upd.of_below hb1).alloc _
  have g2 : w2.heap[w1.heap.size]? = some (.cells rs.toArray 280 (0, 0)) := by rw [hw2]; exact heap_alloc_last w1 _ rfl
  have z2 : w2.heap.size = w1.heap.size + 1 := by rw [hw2]; simp
  have hge := hb1.size
  have HW := Lib.hid (And.intro hw2 hrl)
  have H2 := Lib.hid (And.intro hu2 (And.intro g2 (And.intro z2 hge)))
  clear hu2 g2 z2 hge hw2 hb1 hr0
  obtain ⟨P, hP⟩ : ∃ P, P = w1.heap.size := ⟨_, rfl⟩
  rw [← hP] at H2
  go_upto_region 2 with (first
    | (refine wpList_allocZ rfl _ rfl _ hal ?_)
    | (refine wpList_store_new rfl _ _ _ rfl _ _ rs rfl rfl (by rw [HW.out.2.1]; exact HR.out.2.2.2.2.2.2) (by rw [HW.out.2.1]; exact infoPg) HW.out.2.2 ?_)
    | fail)
  rw [← HW.out.1, ← hP]
  have HP := Lib.hid hP
  clear hP
  cases hok : okP b0 with
  | false =>
    have q1 := cdP_no hok
    have hno : readOk l = false := by unfold readOk; rw [← HR.out.2.2.2.2.1, hok]; rfl
    generalize cdP b0 = cd at *
    have HN := Lib.hid hno
    have q2 : ¬ cd = 0 := by simpa using q1
    clear hok hno hr1 hr2
    go_wp2_with fail
    rw [Exit.noGoto_ret]
    exact bodyPost_ret (v := .tuple #[.int .i64 0, .slice none 0 0, .bool false]) (by simp [results, Tryz.results99, go_sem]) rfl (EntsOut.no HN.out (Upd.below H2.out.1))
  | true =>
    have hcd := cdP_ok hok
    rw [hcd]
    obtain ⟨hu2, g2, z2, hge⟩ := H2.out
    rw [hr1 hok] at g2
    obtain ⟨c0, c1, c2, c3, cr⟩ := pg_cells g2 hok
    obtain ⟨-, -, ho1, ho2, -⟩ := okP_bounds hok
    have hof : readOf l = pgOf b0 := by unfold readOf; rw [HR.out.2.2.2.2.1]
    have hsq : readSeq l = pgSeq b0 := by unfold readSeq; rw [HR.out.2.2.2.2.1]
    rw [← hof] at c2 ho1 ho2
    rw [← hsq] at c0
    have HB := Lib.hid (And.intro g2 (And.intro c0 (And.intro ho1 (And.intro ho2 hok))))
    clear g2 c0 c1 c3 cr hof hsq hcd hr1 hr2 hok hu2 z2 hge ho1 ho2
    by_cases hle : readOf l ≤ l.length
    · have q2 : ¬ ((l.length : Int) < (readOf l : Int)) := by omega
      go_wp2_with fail
      go_step3
      go_wp2_with fail
      go_loopg [7, 8, 32] l.length (fun gk s7 s8 s32 wr => ∃ k : Nat, k + gk = l.length ∧ s32 = .int .i64 (k : Int) ∧ s8 = .bool true ∧ Sl wr 37 4 s7 (entsTo l (min k (readOf l))).length ((entsTo l (min k (readOf l))).flatMap entC) ∧ From (P + 1) s7 ∧ Upd (fun j => P + 1 ≤ j) w2 wr ∧ ∀ i < k, goesP (readSeq l) (readOf l) i (l.getD i zB) = true)
      case atStart => exact ⟨0, by omega, rfl, rfl, by rw [Nat.zero_min]; exact Sl.nil _ _ _, From.nil _ _ _, Upd.refl _ _, fun i h => by omega⟩
      case round =>
        obtain ⟨k, hk, rfl, rfl, hsl, hfr, hu, hall⟩ := hrel
        obtain ⟨hrow, hl, h64, hN, hb0, hal', hZl⟩ := HR.out
        obtain ⟨hu2, g2, z2, hge⟩ := H2.out
        obtain ⟨gg2, c0, ho1, ho2, hok⟩ := HB.out
        have hout : ∀ j, j ≤ P → ¬ (P + 1 ≤ j) := fun j hj => by omega
        have d0 := hu.cellv c0 (hout _ (Nat.le_refl _))
        have d2 := hu.cellv c2 (hout _ (Nat.le_refl _))
        have hU : Upd (fun j => w.heap.size ≤ j) w wr := (hu2.mono (fun _ _ h => h.elim)).trans (hu.mono (fun j _ (h : P + 1 ≤ j) => by omega))
        by_cases hlt : k < l.length
        · have k1 : (k : Int) < (l.length : Int) := by omega
          have k0 : (0 : Int) ≤ (k : Int) := by omega
          obtain ⟨bk, hbk⟩ : ∃ bk, bk = l.getD k zB := ⟨_, rfl⟩
          have hbl : bk.length = 64 := by rw [hbk]; exact h64 k
          have hr1 := row_of_rowC hrow hl hlt
          rw [← hbk] at hr1
          have hrk : wr.rangeAt g (o + k * 64) (bkC bk) := hU.range hr1 (by omega)
          have hszk := sizeBk bk hbl
          obtain ⟨w3, hw3⟩ : ∃ w3, w3 = wr.alloc (.cells (bkC bk).toArray 54) := ⟨_, rfl⟩
          have hu3 : Upd (fun _ => False) wr w3 := by rw [hw3]; exact (Upd.refl _ wr).alloc _
          have g3 : w3.heap[wr.heap.size]? = some (.cells (bkC bk).toArray 54 (0, 0)) := by rw [hw3]; exact heap_alloc_last wr _ rfl
          have r3 := range_of_block g3
          have e0 := hu3.cellv d0 (fun h => h)
          have e2 := hu3.cellv d2 (fun h => h)
          have hst := bkC_one bk
          have HW3 := Lib.hid hw3
          have hzr : P + 1 ≤ wr.heap.size := by have := hu.size; omega
          have H3 := Lib.hid (And.intro hu3 (And.intro hsl (And.intro hfr (And.intro hu (And.intro hall (And.intro hU (And.intro hN (And.intro ho1 (And.intro ho2 (And.intro hk hzr))))))))))
          obtain ⟨q, hq⟩ : ∃ q, q = wr.heap.size := ⟨_, rfl⟩
          have HQ := Lib.hid hq
          have HBK := Lib.hid (And.intro hbk hb0)
          have hx8 : (bkC bk).toArray.size = 64 := bkC_size _ hbl
          rw [← hq] at r3
          have hb3 : Below w.heap.size w w3 := (below_upd (Below.refl _ w) hU (Nat.le_refl _) (fun _ h => h)).trans ((Upd.below hu3).mono hU.size)
          have HE := Lib.hid hb3
          clear hw3 hu3 g3 hu2 g2 z2 hge gg2 c0 ho1 ho2 hok d0 d2 hr1 hsl hfr hu hall hU hN hal' hrow hl h64 hZl hzr hq hb3 hbk hb0
          go_upto_region 9 with (first
            | (refine wpList_load_mid rfl _ _ rfl _ _ rfl _ _ hrk Tryz.underlying54 rfl hszk ?_)
            | (refine wpList_store_new rfl _ _ _ rfl _ _ (bkC bk) rfl rfl (by rw [bkC_len, hbl]; rfl) hszk hst ?_)
            | fail)
          rw [← HW3.out, ← HQ.out]
          by_cases hof : readOf l ≤ k
          · have hgo : goesP (readSeq l) (readOf l) k bk = (bk == zB) := by unfold goesP; rw [if_pos hof]
            have q3 : ((readOf l : Nat) : Int) ≤ (k : Int) := by omega
            have hneq := fun W => run_neq_bk bk zB hbl zB_len W
            obtain ⟨ZB, hZB⟩ : ∃ ZB, ZB = zB := ⟨_, rfl⟩
            have hbz := buildZ_run ZB hZB
            rw [← hZB] at hneq hgo
            have HZB := Lib.hid hZB
            clear hZB
            by_cases hz : bk = ZB
            · have qz : (bk == ZB) = true := by simp [hz]
              rw [qz] at hneq hgo
              have HGO := Lib.hid hgo
              clear hgo hz
              go_wp2_with (first
                | (refine wpList_load_mid rfl _ _ rfl _ _ rfl _ _ r3 Tryz.underlying54 rfl hszk ?_)
                | (refine wpList_buildZ rfl rfl hbz ?_)
                | fail)
              go_roundg (gk - 1)
              case measure => omega
              case rel =>
                obtain ⟨hu3, hsl, hfr, hu, hall, hU, hN, ho1, ho2, hk, hzr⟩ := H3.out
                refine ⟨k + 1, by omega, by go_num, rfl, ?_, hfr, hu.trans (hu3.mono (fun _ _ h => h.elim)), fun i hi => ?_⟩
                · rw [Nat.min_eq_right hof] at hsl
                  rw [Nat.min_eq_right (by omega)]
                  exact hsl.keep hu3 (fun _ _ h => h)
                · rcases Nat.lt_succ_iff_lt_or_eq.1 hi with h | rfl
                  · exact hall i h
                  · rw [← HBK.out.1]; exact HGO.out
            · have qz : (bk == ZB) = false := by simpa using hz
              rw [qz] at hneq hgo
              have HN := Lib.hid (goes_no hlt (HBK.out.1 ▸ hgo))
              clear hgo hz
              go_wp2_with (first
                | (refine wpList_load_mid rfl _ _ rfl _ _ rfl _ _ r3 Tryz.underlying54 rfl hszk ?_)
                | (refine wpList_buildZ rfl rfl hbz ?_)
                | fail)
              rw [Exit.noGoto_ret]
              exact bodyPost_ret (v := .tuple #[.int .i64 0, .slice none 0 0, .bool false]) (by simp [results, Tryz.results99, go_sem]) rfl (EntsOut.no HN.out HE.out)
          · have q3 : ¬ (((readOf l : Nat) : Int) ≤ (k : Int)) := by omega
            have hgo : goesP (readSeq l) (readOf l) k bk = (okP bk && (pgSeq bk == readSeq l && (pgNo bk == k && (pgOf bk == readOf l && (if k + 1 = readOf l then !(pgMany bk == 0 && decide (0 < k)) else pgMany bk == 4))))) := by unfold goesP; rw [if_neg hof]
            have hGP := Lib.hid (GetP_any (H3.out.2.2.2.2.2.2.1.keep (S := fun j => w.heap.size ≤ j) (H3.out.2.2.2.2.2.1.trans (H3.out.1.mono (fun _ _ h => h.elim))) (fun h => by have := H3.out.2.2.2.2.2.2.1.lt; omega)) bk hbl)
            go_wp2_with (first
              | (refine wpList_load_mid rfl _ _ rfl _ _ rfl _ _ r3 Tryz.underlying54 rfl hszk ?_)
              | fail)
            refine hGP.out.mono ?_
            rintro e w4 ⟨⟨rs', hr1, hr2, rfl⟩, hb4⟩
            have hrl' : rs'.length = 20 ∧ ∀ v ∈ rs', v.oneCell' = true := by
              cases hk : okP bk with
              | true => rw [hr1 hk]; exact ⟨dsP_len _, dsP_one _⟩
              | false => rw [hr2 hk]; exact ⟨rfl, List.all_eq_true.1 (by simp [zeroP, Value.oneCell'] : zeroP.all (·.oneCell') = true)⟩
            obtain ⟨w5, hw5⟩ : ∃ w5, w5 = w4.alloc (.cells rs'.toArray 280) := ⟨_, rfl⟩
            have hu5 : Upd (fun _ => False) w3 w5 := by rw [hw5]; exact (Upd.of_below hb4).alloc _
            have g5 : w5.heap[w4.heap.size]? = some (.cells rs'.toArray 280 (0, 0)) := by rw [hw5]; exact heap_alloc_last w4 _ rfl
            have hz5 : w5.heap.size = w4.heap.size + 1 := by rw [hw5]; simp
            have f0 := hu5.cellv e0 (fun h => h)
            have f2 := hu5.cellv e2 (fun h => h)
            have HW5 := Lib.hid (And.intro hw5 hrl')
            obtain ⟨M, hM⟩ : ∃ M, M = w4.heap.size := ⟨_, rfl⟩
            rw [← hM] at g5
            have hb5 : Below w.heap.size w w5 := HE.out.trans ((Upd.below hu5).mono HE.out.size)
            have HE5 := Lib.hid (And.intro hb5 (And.intro hu5 (And.intro hz5 (And.intro hM hb4.size))))
            have HM := Lib.hid hM
            clear hw5 hrl' hb4 hu5 hz5 hb5 e0 e2 hM r3
            go_upto_region 13 with (first
              | (refine wpList_allocZ rfl _ rfl _ hal ?_)
              | (refine wpList_store_new rfl _ _ _ rfl _ _ rs' rfl rfl (by rw [HW5.out.2.1]; exact HR.out.2.2.2.2.2.2) (by rw [HW5.out.2.1]; exact infoPg) HW5.out.2.2 ?_)
              | fail)
            rw [← HW5.out.1, ← HM.out]
            cases hok : okP bk with
            | false =>
              have q4 := cdP_no hok
              rw [hok] at hgo
              have HN := Lib.hid (goes_no hlt (HBK.out.1 ▸ hgo))
              generalize cdP bk = cd at *
              have q5 : ¬ cd = 0 := by simpa using q4
              clear hok hgo hr1 hr2
              go_wp2_with fail
              rw [Exit.noGoto_ret]
              exact bodyPost_ret (v := .tuple #[.int .i64 0, .slice none 0 0, .bool false]) (by simp [results, Tryz.results99, go_sem]) rfl (EntsOut.no HN.out HE5.out.1)
            | true =>
              rw [cdP_ok hok]
              rw [hr1 hok] at g5
              obtain ⟨y0, y1, y2, y3, yr⟩ := pg_cells g5 hok
              rw [hok, Bool.true_and] at hgo
              have hmany := (okP_bounds hok).2.2.2.2
              have hel : (pgEnts bk).length = pgMany bk := by simp [pgEnts]
              obtain ⟨pe, hpe⟩ : ∃ pe, pe = pgEnts bk := ⟨_, rfl⟩
              rw [← hpe] at yr hel
              have HPE := Lib.hid hpe
              generalize pgSeq bk = a0 at *
              generalize pgNo bk = a1 at *
              generalize pgOf bk = a2 at *
              generalize pgMany bk = a3 at *
              clear hr1 hr2 hok g5 hpe
              have hgn : goesP (readSeq l) (readOf l) k bk = false → readOk l = false := fun h => goes_no hlt (HBK.out.1 ▸ h)
              have hfin : goesP (readSeq l) (readOf l) k bk = true → ∀ v' w6, Sl w6 37 4 v' ((entsTo l k).length + a3) ((entsTo l k).flatMap entC ++ pe.flatMap entC) → Upd (ownS u7) w5 w6 → blockFrom w5 u7 v' →
                  Sl w6 37 4 v' (entsTo l (min (k + 1) (readOf l))).length ((entsTo l (min (k + 1) (readOf l))).flatMap entC) ∧ From (P + 1) v' ∧ Upd (fun j => P + 1 ≤ j) w2 w6 ∧ ∀ i < k + 1, goesP (readSeq l) (readOf l) i (l.getD i zB) = true := by
                intro hg v' w6 hs6 hu6 hb6
                obtain ⟨hu3, hsl, hfr, hu, hall, hU, hN, ho1, ho2, hk, hzr⟩ := H3.out
                obtain ⟨hb5, hu5, hz5, hM, hMs⟩ := HE5.out
                refine ⟨?_, hb6.ge (by have := hu3.size; have := hu5.size; omega) hfr, (hu.trans (((hu3.trans hu5).mono (fun _ _ h => h.elim)))).trans (hu6.mono (fun j _ hj => hfr j hj)), fun i hi => ?_⟩
                · rw [Nat.min_eq_left (by omega), entsTo_succ, List.length_append, List.flatMap_append, ← HBK.out.1, ← HPE.out, hel]
                  exact hs6
                · rcases Nat.lt_succ_iff_lt_or_eq.1 hi with h | rfl
                  · exact hall i h
                  · rw [← HBK.out.1]; exact hg
              have hsl5 : Sl w5 37 4 u7 (entsTo l k).length ((entsTo l k).flatMap entC) := by
                have := H3.out.2.1
                rw [Nat.min_eq_left (by omega)] at this
                exact this.keep (H3.out.1.trans HE5.out.2.1) (fun _ _ h => h)
              have hel4 : (entsTo l k).length ≤ 4 * k := by
                refine entsTo_le (of := k) (fun i hi => ?_) k (Nat.le_refl _)
                have := H3.out.2.2.2.2.1 i hi
                unfold goesP at this
                rw [if_neg (by omega)] at this
                exact (Bool.and_eq_true _ _ ▸ this).1
              have hrd : Rd w5 4 (.slice (some ⟨M, 4, none⟩) a3 a3) a3 (pe.flatMap entC) := by
                refine ⟨by rw [ents_len, hel], by unfold maxLen; omega, some ⟨M, 4, none⟩, a3, rfl, (fun h => by cases h), (fun b hb => ?_)⟩
                cases hb
                intro j u hj
                rw [Addr.add_lit]
                exact yr j u hj
              have hpe1 : ∀ u ∈ pe.flatMap entC, u.oneCell' = true := fun u hu => by
                obtain ⟨x, -, hx⟩ := List.mem_flatMap.1 hu
                exact entC_one x u hx
              have hofe : 1 ≤ readOf l ∧ readOf l ≤ 256 := ⟨HB.out.2.2.1, HB.out.2.2.2.1⟩
              obtain ⟨ie, ze, hie, hze, hz4, hi4, hi32⟩ := infoEnt4
              have HF := Lib.hid (And.intro hfin (And.intro hsl5 (And.intro hrd (And.intro hpe1 hel4))))
              have HGN := Lib.hid hgn
              clear hgn hfin hsl5 hrd hpe1 hel4 yr hel
              generalize goesP (readSeq l) (readOf l) k bk = gb at *
              generalize readSeq l = S0 at *
              generalize readOf l = F0 at *
              by_cases h0 : a0 = S0
              · subst h0
                by_cases h1 : a1 = k
                · subst h1
                  by_cases h2 : a2 = F0
                  · subst h2
                    simp only [beq_self_eq_true, Bool.true_and] at hgo
                    by_cases hl : a1 + 1 = a2
                    · subst hl
                      rw [if_pos rfl] at hgo
                      by_cases h3 : a3 = 0
                      · subst h3
                        by_cases h4 : 0 < a1
                        · have q6 : ((0 : Nat) : Int) < (a1 : Int) := by omega
                          have HN := Lib.hid (HGN.out (by rw [hgo, decide_eq_true h4]; rfl))
                          clear hgo
                          go_wp2_with fail
                          rw [Exit.noGoto_ret]
                          exact bodyPost_ret (v := .tuple #[.int .i64 0, .slice none 0 0, .bool false]) (by simp [results, Tryz.results99, go_sem]) rfl (EntsOut.no HN.out HE5.out.1)
                        · have q6 : ¬ ((0 : Nat) : Int) < (a1 : Int) := by omega
                          rw [decide_eq_false h4] at hgo
                          replace hgo : gb = true := hgo
                          have HF2 := Lib.hid (HF.out.1 hgo)
                          have HS := Lib.hid (And.intro HF.out.2.1 (And.intro HF.out.2.2.1 (And.intro HF.out.2.2.2.1 HF.out.2.2.2.2)))
                          clear hgo
                          go_wp2_with (first
                            | (at_builtin; refine wpList_append_sl rfl _ _ 22 rfl ie ze 32 Tryz.underlying22 hie hze hi4 hi32 hz4 (by decide) rfl HS.out.1 _ _ (pe.flatMap entC) rfl HS.out.2.1 HS.out.2.2.1 (by unfold maxLen; have := HS.out.2.2.2; omega) (by have := HS.out.2.2.2; omega) ?_)
                            | fail)
                          intro v' w6 hs6 hu6 hb6
                          have HZ := Lib.hid (HF2.out v' w6 hs6 hu6 hb6)
                          clear hs6 hu6 hb6
                          go_wp2_with fail
                          go_roundg (gk - 1)
                          case measure => have := H3.out.2.2.2.2.2.2.2.2.2.1; omega
                          case rel => exact ⟨a1 + 1, by have := H3.out.2.2.2.2.2.2.2.2.2.1; omega, by go_num, rfl, HZ.out.1, HZ.out.2.1, HZ.out.2.2.1, HZ.out.2.2.2⟩
                      · have q6 : ¬ ((a3 : Nat) : Int) = 0 := by omega
                        have b1 : (0 : Int) ≤ (a3 : Int) := by omega
                        have b2 : (a3 : Int) ≤ 4 := by omega
                        rw [show (a3 == 0) = false by simpa using h3] at hgo
                        replace hgo : gb = true := hgo
                        have HF2 := Lib.hid (HF.out.1 hgo)
                        have HS := Lib.hid (And.intro HF.out.2.1 (And.intro HF.out.2.2.1 (And.intro HF.out.2.2.2.1 HF.out.2.2.2.2)))
                        clear hgo
                        go_wp2_with (first
                          | (at_builtin; refine wpList_append_sl rfl _ _ 22 rfl ie ze 32 Tryz.underlying22 hie hze hi4 hi32 hz4 (by decide) rfl HS.out.1 _ _ (pe.flatMap entC) rfl HS.out.2.1 HS.out.2.2.1 (by unfold maxLen; have := HS.out.2.2.2; omega) (by have := HS.out.2.2.2; omega) ?_)
                          | fail)
                        intro v' w6 hs6 hu6 hb6
                        have HZ := Lib.hid (HF2.out v' w6 hs6 hu6 hb6)
                        clear hs6 hu6 hb6
                        go_wp2_with fail
                        go_roundg (gk - 1)
                        case measure => have := H3.out.2.2.2.2.2.2.2.2.2.1; omega
                        case rel => exact ⟨a1 + 1, by have := H3.out.2.2.2.2.2.2.2.2.2.1; omega, by go_num, rfl, HZ.out.1, HZ.out.2.1, HZ.out.2.2.1, HZ.out.2.2.2⟩
                    · rw [if_neg hl] at hgo
                      have q5 : ¬ ((a1 : Nat) : Int) = (a2 : Int) - 1 := by omega
                      by_cases h3 : a3 = 4
                      · subst h3
                        replace hgo : gb = true := hgo
                        have HF2 := Lib.hid (HF.out.1 hgo)
                        have HS := Lib.hid (And.intro HF.out.2.1 (And.intro HF.out.2.2.1 (And.intro HF.out.2.2.2.1 HF.out.2.2.2.2)))
                        clear hgo
                        go_wp2_with (first
                          | (at_builtin; refine wpList_append_sl rfl _ _ 22 rfl ie ze 32 Tryz.underlying22 hie hze hi4 hi32 hz4 (by decide) rfl HS.out.1 _ _ (pe.flatMap entC) rfl HS.out.2.1 HS.out.2.2.1 (by unfold maxLen; have := HS.out.2.2.2; omega) (by have := HS.out.2.2.2; omega) ?_)
                          | fail)
                        intro v' w6 hs6 hu6 hb6
                        have HZ := Lib.hid (HF2.out v' w6 hs6 hu6 hb6)
                        clear hs6 hu6 hb6
                        go_wp2_with fail
                        go_roundg (gk - 1)
                        case measure => have := H3.out.2.2.2.2.2.2.2.2.2.1; omega
                        case rel => exact ⟨a1 + 1, by have := H3.out.2.2.2.2.2.2.2.2.2.1; omega, by go_num, rfl, HZ.out.1, HZ.out.2.1, HZ.out.2.2.1, HZ.out.2.2.2⟩
                      · have q6 : ¬ ((a3 : Nat) : Int) = 4 := by omega
                        have HN := Lib.hid (HGN.out (by rw [hgo]; simpa using h3))
                        clear hgo
                        go_wp2_with fail
                        rw [Exit.noGoto_ret]
                        exact bodyPost_ret (v := .tuple #[.int .i64 0, .slice none 0 0, .bool false]) (by simp [results, Tryz.results99, go_sem]) rfl (EntsOut.no HN.out HE5.out.1)
                  · have q6 : ¬ ((a2 : Nat) : Int) = (F0 : Int) := by omega
                    have q7 : (a2 == F0) = false := by simpa using h2
                    simp only [beq_self_eq_true, Bool.true_and] at hgo
                    rw [q7] at hgo
                    have HN := Lib.hid (HGN.out hgo)
                    clear hgo
                    go_wp2_with fail
                    rw [Exit.noGoto_ret]
                    exact bodyPost_ret (v := .tuple #[.int .i64 0, .slice none 0 0, .bool false]) (by simp [results, Tryz.results99, go_sem]) rfl (EntsOut.no HN.out HE5.out.1)
                · have q6 : ¬ ((a1 : Nat) : Int) = (k : Int) := by omega
                  have q7 : (a1 == k) = false := by simpa using h1
                  simp only [beq_self_eq_true, Bool.true_and] at hgo
                  rw [q7] at hgo
                  have HN := Lib.hid (HGN.out hgo)
                  clear hgo
                  go_wp2_with fail
                  rw [Exit.noGoto_ret]
                  exact bodyPost_ret (v := .tuple #[.int .i64 0, .slice none 0 0, .bool false]) (by simp [results, Tryz.results99, go_sem]) rfl (EntsOut.no HN.out HE5.out.1)
              · have q6 : ¬ ((a0 : Nat) : Int) = (S0 : Int) := by omega
                have q7 : (a0 == S0) = false := by simpa using h0
                rw [q7] at hgo
                have HN := Lib.hid (HGN.out hgo)
                clear hgo h0
                go_wp2_with fail
                rw [Exit.noGoto_ret]
                exact bodyPost_ret (v := .tuple #[.int .i64 0, .slice none 0 0, .bool false]) (by simp [results, Tryz.results99, go_sem]) rfl (EntsOut.no HN.out HE5.out.1)
        · obtain rfl : k = l.length := by omega
          have k1 : ¬ ((l.length : Int) < (l.length : Int)) := by omega
          have hro : readOk l = true := by
            unfold readOk
            rw [← hb0, hok, decide_eq_true hle, Bool.true_and, Bool.true_and, List.all_eq_true]
            exact fun i hi => hall i (List.mem_range.1 hi)
          rw [Nat.min_eq_right hle] at hsl
          have hz : EntsOut w l (.returned (.tuple #[.int .i64 (readSeq l : Int), u7, .bool true])) wr :=
            ⟨u7, by rw [hro]; rfl, by rw [hro]; exact hsl, hfr.mono (by omega), below_upd (Below.refl _ w) hU (Nat.le_refl _) (fun _ h => h)⟩
          have HZ := Lib.hid hz
          clear hz hro hsl hfr hu hall hU hrow hl h64 hN hb0 hal' hZl hu2 g2 z2 hge gg2 ho1 ho2 hok
          go_wp2_with fail
          try rw [Exit.noGoto_ret]
          exact bodyPost_ret (v := .tuple #[.int .i64 (readSeq l : Int), u7, .bool true]) (by simp [results, Tryz.results99, go_sem]) rfl HZ.out
    · have q2 : ((l.length : Int) < (readOf l : Int)) := by omega
      have hno : readOk l = false := by unfold readOk; rw [decide_eq_false hle]; simp
      have HN := Lib.hid hno
      clear hno hle
      go_wp2_with fail
      rw [Exit.noGoto_ret]
      exact bodyPost_ret (v := .tuple #[.int .i64 0, .slice none 0 0, .bool false]) (by simp [results, Tryz.results99, go_sem]) rfl (EntsOut.no HN.out (Upd.below H2.out.1))
end Go.Proofs.YtfhfbpmlnjdfoaaGreatDoor
namespace Go.Proofs.YtfhfbpmlnjdfoaaGreatDoor
open Go Go.RowKit Go.Shelf
attribute [local go_sem] Oper.semAt_some
section
variable {F : Fence} {n : Nat} {P : Program} {ops : Array Oper} {rest : List Oper} {op : Oper} {a : Act} {w : World} {Q : Exit → Act → World → Prop}
theorem wpListIn_row (hgd : op.guard = none) (ts te : TypeId) (p : Operand) (ho : op.op = .buildSlice ts 1 #[(0, p)]) (cs : List Value) (hp : a.eval p = .agg cs.toArray)
    (hrun : (Instr.buildSlice ts 1 #[(0, .agg cs.toArray)]).run P w = .ok (.slice (some ⟨w.heap.size, 0, none⟩) 1 1) (w.alloc (.cells cs.toArray te)))
    (h : wpListIn F n P ops Q rest (a.put op.dst (.slice (some ⟨w.heap.size, 0, none⟩) 1 1)) (w.alloc (.cells cs.toArray te))) : wpListIn F n P ops Q (op :: rest) a w := by
  refine wpListIn_plain hgd fun K hK' => ?_
  unfold Oper.wpIn
  refine ⟨by simp [Oper.about, ho], ?_⟩
  rw [Oper.semAt_plain F _ _ (by rw [ho]; intro c hc'; cases hc')]
  simp only [execOp, ho, List.map_toArray, List.map_cons, List.map_nil, hp, Sem.run_bind, hrun, Result.andThen_ok]
  exact hK' _ _ h
theorem wpListIn_app (hgd : op.guard = none) (s x : Operand) (t : TypeId) (hop : op.op = Op.call { callee := Callee.builtin Builtin.append, args := #[s, x], argTypes := #[t, t] }) (v x' : Value) (hs : a.eval s = v) (hx : a.eval x = x') (v' : Value) (w' : World)
    (hrun : (Builtin.append_ #[t, t] op.type #[v, x']).run P w = .ok v' w') (h : wpListIn F n P ops Q rest (a.put op.dst v') w') : wpListIn F n P ops Q (op :: rest) a w := by
  refine wpListIn_plain hgd fun K hK' => ?_
  unfold Oper.wpIn
  refine ⟨?_, ?_⟩
  · simp [Oper.about, hop, resolve, Target.leads, Sem.run_pure]
  · rw [Oper.semAt_plain F _ _ (by rw [hop]; intro c hc'; cases hc')]
    simp [execOp, hop, resolve, invoke, builtin, hs, hx, hrun, Result.andThen]
    exact hK' _ _ h
end
theorem makeBl (m : Nat) (hm : m ≤ 4096) : ∃ Z : Array Value, Z.size = m * 64 ∧ ∀ w : World, (Instr.makeSlice 41 (.int .i64 0) (.int .i64 (m : Int))).run Tryz.prog w = .ok (.slice (some ⟨w.heap.size, 0, none⟩) 0 m) (w.alloc (.cells Z 54)) := by
  obtain ⟨i0, z, hi, hz, hs, hb2, hb3⟩ := infoBl_parts
  refine ⟨madeCells z.cells (m * 64), by simp [size_madeCells], fun w => ?_⟩
  have := run_make (P := Tryz.prog) w 41 54 i0 z Tryz.underlying41 hi hz .i64 .i64 0 m (by omega) (by omega) (by rw [hb3]; omega) (by omega)
  rw [this]
  simp only [Int.toNat_natCast, hb2]
  rfl
def secsOf (F : List Bk) (O : List (Nat × Bk)) (base m : Nat) : List Bk := (List.range m).map fun i => curB F O (base + i)
theorem secsOf_len (F : List Bk) (O : List (Nat × Bk)) (base m : Nat) : (secsOf F O base m).length = m := by simp [secsOf]
def PrOut (S : Nat → Prop) (w : World) (b : Nat) (F : List Bk) (O : List (Nat × Bk)) (l : List Bk) (e : Ending) (w' : World) : Prop :=
  ∃ v, e = .returned (.tuple #[.int .i64 ((if readOk l then readSeq l else 0 : Nat) : Int), v, .int .i64 (if readOk l then 0 else 14)]) ∧ Sl w' 37 4 v (if readOk l then readEs l else []).length ((if readOk l then readEs l else []).flatMap entC) ∧ From w.heap.size v ∧ Dv (fun j => S j ∧ ∀ g, v.ownBlock = some g → g ≠ j) w' b F O [] ∧ Upd S w w'
def PrI (T D : Nat → Prop) (w5 : World) (b lb rb : Nat) (F : List Bk) (O : List (Nat × Bk)) (base : Nat) {m : Nat} (pre : List { i : Nat // i < m }) (W : World) : Prop :=
  Upd T w5 W ∧ ∃ v S1, W.heap[lb]? = some (.cells #[v] 41 (0, 0)) ∧ Sl W 54 64 v pre.length (rowC (pre.map fun x => curB F O (base + x.1))) ∧ (∀ g, v.ownBlock = some g → g = rb ∨ w5.heap.size ≤ g) ∧
    Dv S1 W b F O [] ∧ (∀ j, S1 j → D j) ∧ (∀ j, S1 j → ∃ cs t z, W.heap[j]? = some (.cells cs t z)) ∧ ∀ g, v.ownBlock = some g → ¬ S1 g
set_option maxRecDepth 100000 in
set_option maxHeartbeats 4000000 in
theorem pread {S : Nat → Prop} {w : World} {b : Nat} {F : List Bk} {O : List (Nat × Bk)} (hd : Dv S w b F O []) (hn : ∀ j, w.heap.size ≤ j → S j) (base m : Nat) (hm1 : 1 ≤ m) (hbm : base + m ≤ F.length) (hN : Nib w) (hgS : ¬ S 0) :
    Calls Tryz.prog 35 #[.pointer (some ⟨b, 0, none⟩), .int .i64 (base : Int), .int .i64 (m : Int)] w (PrOut S w b F O (secsOf F O base m)) := by
  have hfl := hd.good.fl
  obtain ⟨Z, hZ, hmk⟩ := makeBl m (by omega)
  obtain ⟨w1, hw1⟩ : ∃ w1, w1 = (((w.alloc (.cells #[.pointer (some ⟨b, 0, none⟩)] 46)).alloc (.cells #[.int .i64 0] 3)).alloc (.cells #[.slice none 0 0] 22)).alloc (.cells #[.int .i64 0] 28) := ⟨_, rfl⟩
  have hu1 : Upd (fun _ => False) w w1 := by rw [hw1]; exact ((((Upd.refl _ w).alloc _).alloc _).alloc _).alloc _
  obtain ⟨e0, e1, e2, e3, z1, -⟩ := four_new w (.cells #[.pointer (some ⟨b, 0, none⟩)] 46) (.cells #[.int .i64 0] 3) (.cells #[.slice none 0 0] 22) (.cells #[.int .i64 0] 28)
  rw [← hw1] at e0 e1 e2 e3 z1
  obtain ⟨w2, hw2⟩ : ∃ w2, w2 = (w1.alloc (.cells Z 54)).alloc (.cells #[.slice (some ⟨w1.heap.size, 0, none⟩) 0 m] 41) := ⟨_, rfl⟩
  have hu2 : Upd (fun _ => False) w1 w2 := by rw [hw2]; exact ((Upd.refl _ w1).alloc _).alloc _
  have z2 : w2.heap.size = w1.heap.size + 2 := by rw [hw2]; simp
  have e4 : w2.heap[w1.heap.size]? = some (.cells Z 54 (0, 0)) := by rw [hw2]; exact (Below.heap_alloc _ _ _ (by simp)).trans (heap_alloc_last w1 _ rfl)
  have e5 : w2.heap[w1.heap.size + 1]? = some (.cells #[.slice (some ⟨w1.heap.size, 0, none⟩) 0 m] 41 (0, 0)) := by rw [hw2]; exact heap_alloc_last _ _ (by simp)
  have hd1 := hd.new hu1
  have HW1 := Lib.hid hw1
  have HW2 := Lib.hid hw2
  have H := Lib.hid (And.intro hd (And.intro hn (And.intro hN (And.intro hgS (And.intro hu1 (And.intro hu2 (And.intro z1 (And.intro z2 (And.intro e4 (And.intro e5 (And.intro hZ (And.intro e0 (And.intro e1 (And.intro e2 e3))))))))))))))
  clear hd hn hN hgS hu1 hu2 e4 e5 hw1 hw2 e1 e2 e3 z2 e0
  refine (callsIn_wide (n := 3)).1 ?_
  refine callsIn_of_wp_marks Tryz.func35 rfl trivial ?_ rfl
  simp only [Tryz.ntmps35, List.size_toArray, List.length_cons, List.length_nil, Nat.reduceAdd, Nat.reduceSub, Array.replicate_succ, Array.replicate_zero, List.push_toArray, List.append_toArray, List.nil_append, List.cons_append]
  refine wpIn_wide.2 ?_
  go_wp2_with fail
  rw [← HW1.out]
  refine (there1 hd1 base m hm1 hbm).mono ?_
  rintro e w' ⟨rfl, rfl⟩
  go_wp2_with fail
  have hmn := hmk
  have hz1 := H.out.2.2.2.2.2.2.1
  obtain ⟨A, hA⟩ : ∃ A, A = w.heap.size := ⟨_, rfl⟩
  have HA := Lib.hid hA
  have hW2' := HW2.out
  rw [hz1] at hW2'
  rw [← hW2', ← hA]
  refine (sectors_any (base : Int) (m : Int) w2).mono ?_
  rintro e w5 ⟨rfl, hw5⟩
  obtain ⟨hd, hn, hN, hgS, hu1, hu2, z1', z2, e4, e5, hZ', e0, e1, e2, e3⟩ := H.out
  have hu5 : Upd (fun _ => False) w2 w5 := by rw [hw5]; exact ((Upd.refl _ w2).alloc _).alloc _
  have hz5 : w5.heap.size = A + 8 := by rw [hw5]; simp; omega
  have hz2 : w2.heap.size = A + 6 := by omega
  have hcb : w5.cell? ⟨A + 6, 0, none⟩ = some (.int .i64 (base : Int)) := by
    rw [hw5, ← hz2]; exact (cell_of_block ((Below.heap_alloc _ _ _ (by simp)).trans (heap_alloc_last w2 _ rfl)) 0)
  have hcm : w5.cell? ⟨A + 7, 0, none⟩ = some (.int .i64 (m : Int)) := by
    rw [hw5, show A + 7 = w2.heap.size + 1 by omega]; exact (cell_of_block (heap_alloc_last _ _ (by simp)) 0)
  have hU : Upd (fun _ => False) w w5 := (hu1.trans hu2).trans hu5
  obtain ⟨T, hT⟩ : ∃ T : Nat → Prop, T = fun j => (S j ∧ j < A) ∨ (A + 4 ≤ j ∧ j < A + 6) ∨ A + 8 ≤ j := ⟨_, rfl⟩
  obtain ⟨D, hD⟩ : ∃ D : Nat → Prop, D = fun j => (S j ∧ j < A) ∨ A + 8 ≤ j := ⟨_, rfl⟩
  have hDT : ∀ j, D j → T j := fun j h => by rw [hD] at h; rw [hT]; exact h.imp id .inr
  have hD5 : ∀ j, A ≤ j → j < A + 8 → ¬ D j := fun j h1 h2 h => by rw [hD] at h; rcases h with h | h <;> omega
  have hDn : ∀ j, A + 8 ≤ j → D j := fun j h => by rw [hD]; exact .inr h
  have hTn : ∀ j, A + 8 ≤ j → T j := fun j hj => by rw [hT]; exact .inr (.inr hj)
  have hTo : ∀ j, A ≤ j → j < A + 4 ∨ (A + 6 ≤ j ∧ j < A + 8) → ¬ T j := fun j h1 h2 h => by rw [hT] at h; rcases h with h | h | h <;> omega
  have hT4 : T (A + 4) := by rw [hT]; exact .inr (.inl (by omega))
  have hT5 : T (A + 5) := by rw [hT]; exact .inr (.inl (by omega))
  have hd5 : Dv D w5 b F O [] := ((hd.shrink (T := fun j => S j ∧ j < A) (fun j h1 h2 => ⟨h1, by omega⟩)).new hU).wide (fun j h => by rw [hD]; exact .inl h)
  obtain ⟨S1, k1, k2, k3⟩ := hd5.exact
  rw [z1'] at e4 e5
  rw [← hA] at e0 e1 e2 e3 e4 e5
  have g0 := (hu2.trans hu5).blockv e0
  have g1 := (hu2.trans hu5).blockv e1
  have g2 := (hu2.trans hu5).blockv e2
  have g3 := (hu2.trans hu5).blockv e3
  have g4 := hu5.blockv e4
  have g5 := hu5.blockv e5
  have hsl0 : Sl w5 54 64 (.slice (some ⟨A + 4, 0, none⟩) 0 m) 0 [] := ⟨rfl, .inr ⟨A + 4, 0, m, Z, rfl, g4, by omega, by unfold maxLen; omega, by rw [hZ]; omega, fun j u h => by cases h⟩⟩
  have H5 := Lib.hid (And.intro hd5 (And.intro hTn (And.intro hTo (And.intro g0 (And.intro g1 (And.intro g2 (And.intro g3 (And.intro hT (And.intro hU (And.intro hT4 (And.intro hT5 (And.intro hD (And.intro hDT (And.intro hD5 hDn))))))))))))))
  have HI : Hid (PrI T D w5 b (A + 5) (A + 4) F O base ([] : List { i : Nat // i < m }) w5) := ⟨Upd.refl _ _, _, S1, g5, hsl0, fun g hg => by cases hg; exact .inl rfl, k1, k2, k3, fun g hg hs => by cases hg; exact hD5 (A + 4) (by omega) (by omega) (k2 _ hs)⟩
  rw [hz2]
  clear hd hn hN hgS hu1 hu2 e4 e5 hZ' e0 e1 e2 e3 hu5 g0 g1 g2 g3 g4 g5 hsl0 hd5 hU hT hD k1 k2 k3 hW2' hw5 z2 hz2 hmk hmn hA z1 z1' hz1
  go_wp2_with fail
  refine (wpIn_wide (n := 3)).1 ?_
  refine' wpIn_rangeFunc_ownF rfl (by omega) (gf := 171) (lb := #[.pointer (some ⟨A + 7, 0, none⟩), .pointer (some ⟨A + 6, 0, none⟩)]) rfl trivial (enters_of Tryz.func171 (by kernel_rfl) rfl)
    (sec_stops _ (by omega) T (A + 7) (A + 6) base m w5 (by omega) (by omega) (by omega) (by omega) (hTo _ (by omega) (.inr (by omega))) (hTo _ (by omega) (.inr (by omega))) hcm hcb) supd_t (fun W l o o' hl => supd_b (M := A + 8) hTn W l o o' (by omega)) (Below.refl _ _) (fun _ => rfl)
    (PrI T D w5 b (A + 5) (A + 4) F O base)
    (fun _ _ _ => False)
    (fun pre X Y row hs hg hr => by
      obtain ⟨hu, v, S1, hv, hs, hf, hd, k2, k3, k4⟩ := hs
      have hkc : ∀ {j : Nat} {cs : Array Value} {t : TypeId} {z : Nat × Nat}, X.heap[j]? = some (Obj.cells cs t z) → Y.heap[j]? = some (Obj.cells cs t z) := fun h => (grownBy_keeps_cells hg (fun r e => (hr r e).2) h rfl).trans h
      exact ⟨upd_grown hu hg (fun r e => hTn r (by have := (hr r e).1; omega)), v, S1, hkc hv,
        hs.keep (Upd.of_grown (S := fun j => row = some j) hg (fun g e _ => e)) (fun g hgv e => by
          obtain ⟨o, ho, hc⟩ := (hr g e).2
          obtain ⟨cs, t, z, hcs⟩ := hs.cellsAt hgv
          rw [hcs] at ho; cases ho; cases hc), hf, hd.grown hg (fun r e => (hr r e).2), k2, fun j hj => by obtain ⟨cs, t, z, h⟩ := k3 j hj; exact ⟨cs, t, z, hkc h⟩, k4⟩)
    (fun _ _ _ _ _ hs _ _ => hs)
    HI.out
    _ ?assign ?body ?done ?stop
  case assign =>
    intro l x W K hK
    gi_wp2
    exact hK
  case stop =>
    rintro D c pre W _ _ h _
    exact h.elim
  case body =>
    rintro l pre ⟨i, hi⟩ W ⟨hu, v, S1, hcell, hsl, hf, h0, hs0, hcs0, hv1⟩ hlt
    obtain ⟨-, -, -, g0, -, -, -, hT, -, hT4, hT5, hD, hDT, hD5, hDn⟩ := H5.out
    have hus := hu.size
    have hG0 := (hu.block _ (lt_of_block g0) (hTo _ (Nat.le_refl _) (.inl (by omega)))).trans g0
    have c0 : W.cell? ⟨A, 0, none⟩ = some (.pointer (some ⟨b, 0, none⟩)) := cell_of_block hG0 0
    have hrd := dreadR (S := fun j => S1 j ∨ W.heap.size ≤ j) (h0.wide (fun _ h => .inl h)) (fun _ h => .inr h) (base + i) (by omega)
    have HR := Lib.hid hrd
    have hl0 := lt_of_block hG0
    have hl5 := lt_of_block hcell
    have HB := Lib.hid (And.intro hu (And.intro hcell (And.intro hsl (And.intro hf (And.intro h0 (And.intro hs0 (And.intro hcs0 (And.intro hv1 (And.intro hus (And.intro hT5 (And.intro hDT (And.intro hD5 (And.intro hDn hT4)))))))))))))
    clear g0 hT hT4 hDn hG0 hrd hu hcell hsl hf h0 hs0 hcs0 hv1 hT5 hD hDT hD5 hus
    gi_wp2_with fail
    refine ⟨trivial, ?_⟩
    rw [show ((base : Int) + (i : Int)) = ((base + i : Nat) : Int) by simp]
    refine (CallsIn.inRound l (callsIn_wide.2 HR.out)).mono ?_
    rintro e W2 ⟨y, cd, rfl, hy, hcd, hyl, hd2, hu2⟩
    have hcd0 : cd = 0 := by rw [hcd]; rfl
    have hyc : y = curB F O (base + i) := by rw [hy]; rfl
    subst hcd0
    obtain ⟨hu, hcell, hsl, hf, h0, hs0, hcs0, hv1, hus, hT5, hDT, hD5, hDn, hT4⟩ := HB.out
    obtain ⟨S2, d2, s2, k2⟩ := hd2.exact
    have hs2 := hu2.size
    have n5 : ¬ (S1 (A + 5) ∨ W.heap.size ≤ A + 5) := fun h => by
      rcases h with h | h
      · exact hD5 _ (by omega) (by omega) (hs0 _ h)
      · omega
    have hcell2 := (hu2.block (A + 5) hl5 n5).trans hcell
    have hsl2 := hsl.keep hu2 (fun g hg h => by
      rcases h with h | h
      · exact hv1 g hg h
      · have := hsl.lt hg; omega)
    obtain ⟨W4, hW4⟩ : ∃ W4, W4 = (W2.alloc (.cells (bkC y).toArray 54)).alloc (.cells (bkC y).toArray 54) := ⟨_, rfl⟩
    have hu4 : Upd (fun _ => False) W2 W4 := by rw [hW4]; exact ((Upd.refl _ W2).alloc _).alloc _
    have hz4 : W4.heap.size = W2.heap.size + 2 := by rw [hW4]; simp
    have g4 : W4.heap[W2.heap.size + 1]? = some (.cells (bkC y).toArray 54 (0, 0)) := by rw [hW4]; exact heap_alloc_last _ _ (by simp)
    have hcell4 := hu4.blockv hcell2
    have hsl4 := hsl2.keep hu4 (fun _ _ h => h)
    obtain ⟨ib, zb, hib, hzb, hzs, hisz, hiby⟩ := infoBl_parts
    have hpl : pre.length ≤ 4096 := by omega
    obtain ⟨v', w', hrun, hs', hu', hbf⟩ := run_append_sl (P := Tryz.prog) (m := 1) (x' := .slice (some ⟨W2.heap.size + 1, 0, none⟩) 1 1) (news := bkC y) 41 41 ib zb 64 Tryz.underlying41 hib hzb hisz hiby hzs (by decide) hsl4
      ⟨by rw [bkC_len, hyl], by decide, _, _, rfl, (fun h => by cases h), fun b hb j u hj => by cases hb; rw [Addr.add_lit, cell_of_block g4]; simpa using hj⟩ (bkC_one y) (by simp only [maxLen]; omega) (by omega)
    obtain ⟨ao', cc', hv'⟩ := hs'.rd.nil_iff
    subst hv'
    have hv5 : ∀ g, v.ownBlock = some g → g ≠ A + 5 := fun g hg e => by
      have := hf g hg; omega
    have hc' := (hu'.block (A + 5) (lt_of_block hcell4) (fun h => hv5 _ h rfl)).trans hcell4
    obtain ⟨w7, hw7⟩ : ∃ w7, w7 = w'.setCell ⟨A + 5, 0, none⟩ (.slice ao' (pre.length + 1) cc') := ⟨_, rfl⟩
    have hus7 : Upd (fun j => j = A + 5) w' w7 := by rw [hw7]; exact upd_setCell _ _ _ _
    have hc7 : w7.heap[A + 5]? = some (.cells #[.slice ao' (pre.length + 1) cc'] 41 (0, 0)) := by rw [hw7]; exact heap_setCell_same hc' 0 _
    have cc2 := cell_of_block hcell2 0
    have cc4 := cell_of_block hc' 0
    have ff4 := frozen_of_block hc' 0
    have hlt2 := lt_of_block hcell2
    have hyc64 : (bkC y).length = 64 := by rw [bkC_len, hyl]
    have hrow := run_row_bl (.agg (bkC y).toArray) (by simpa [Value.cells] using hyc64) (W2.alloc (.cells (bkC y).toArray 54))
    have hy64 := sizeBk y hyl
    have rA : (W2.alloc (.cells (bkC y).toArray 54)).rangeAt W2.heap.size 0 (bkC y) := range_of_block (heap_alloc_last W2 _ rfl)
    have hbf4 : ∀ g, (Value.slice ao' (pre.length + 1) cc').ownBlock = some g → (v.ownBlock = some g ∨ W4.heap.size ≤ g) := fun g hg => by
      rcases hbf with e | ⟨g2, e, hge⟩
      · rw [e] at hg; exact .inl hg
      · rw [e] at hg; cases hg; exact .inr hge
    have hTW : Upd T W w7 := by
      refine (((hu2.mono (fun j _ h => ?_)).trans (hu4.mono (fun _ _ h => h.elim))).trans (hu'.mono (fun j _ h => ?_))).trans (hus7.mono (fun j _ h => h ▸ hT5))
      · rcases h with h | h
        · exact hDT _ (hs0 _ h)
        · exact hTn _ (by omega)
      · rcases hf j h with rfl | h
        · exact hT4
        · exact hTn _ (by omega)
    have hS2v : ∀ j, S2 j → v.ownBlock ≠ some j := fun j hj e => by
      rcases s2 j hj with h | h
      · exact hv1 j e h
      · have := hsl.lt e; omega
    have hS25 : ∀ j, S2 j → j ≠ A + 5 := fun j hj e => by
      rcases s2 j hj with h | h
      · exact hD5 _ (by omega) (by omega) (hs0 _ (e ▸ h))
      · omega
    have hPOST : KeepsOthers W w7 ∧ Upd T W w7 ∧ PrI T D w5 b (A + 5) (A + 4) F O base (pre ++ [(⟨i, hi⟩ : { i : Nat // i < m })]) w7 := by
      refine ⟨?_, hTW, hu.trans hTW, _, S2, hc7, ?_, fun g hg => ?_, ?_, fun j hj => ?_, fun j hj => ?_, fun g hg hs => ?_⟩
      · have e1 : KeepsOthers W W2 := keepsOthers_cells hu2 (fun j hj hl => by
          rcases hj with hj | hj
          · exact hcs0 j hj
          · omega)
        have e2 : KeepsOthers W2 W4 := ⟨by omega, fun k o hk ho => hu4.blockv hk⟩
        exact ((e1.trans e2).trans (keepsOthers_cells hu' (fun j hj _ => hsl4.cellsAt hj))).trans (keepsOthers_cells hus7 (fun j hj _ => ⟨_, _, _, hj ▸ hc'⟩))
      · rw [List.length_append, List.map_append]
        show Sl w7 _ _ _ _ (rowC (_ ++ [curB F O (base + i)]))
        rw [rowC_snoc, ← hyc]
        exact hs'.keep hus7 (fun g hg e => by
          rcases hbf4 g hg with h | h
          · exact hv5 g h e
          · omega)
      · rcases hbf4 g hg with h | h
        · exact hf g h
        · right; omega
      · exact ((d2.keep hu4 (fun _ _ h => h)).keep hu' (fun j hj h => hS2v j hj h)).keep hus7 (fun j hj e => hS25 j hj e)
      · rcases s2 j hj with h | h
        · exact hs0 j h
        · exact hDn j (by omega)
      · obtain ⟨cs, t, z, hc⟩ := k2 j hj
        have q1 := hu4.blockv hc
        have q2 := (hu'.block j (lt_of_block q1) (fun h => hS2v j hj h)).trans q1
        exact ⟨cs, t, z, (hus7.block j (lt_of_block q2) (fun e => hS25 j hj e)).trans q2⟩
      · rcases hbf4 g hg with h | h
        · exact hS2v g hs h
        · obtain ⟨cs, t, z, hc⟩ := k2 g hs
          have := lt_of_block hc; omega
    have HP := Lib.hid hPOST
    have HW7 := Lib.hid hw7
    rw [hW4] at hrun
    have HRun := Lib.hid hrun
    clear hPOST hTW hS2v hS25 hw7 hrun hW4 hu4 hz4 g4 hcell4 hsl4 hs' hu' hbf hbf4 hv5 hus7 hc7 d2 s2 k2 hs2 n5 hcell2 hsl2 hu hcell hsl hf h0 hs0 hcs0 hv1 hus hT5 hDT hD5 hDn hT4 hy hcd hyc hd2 hu2 hc'
    gi_wp2_with (first
      | (refine wpListIn_store_new rfl _ _ _ rfl _ _ (bkC y) rfl rfl (by rw [hyc64]; rfl) hy64 (bkC_one y) ?_)
      | (refine wpListIn_load_mid rfl 54 _ rfl _ _ rfl _ _ rA Tryz.underlying54 rfl hy64 ?_)
      | (refine wpListIn_row rfl 41 54 _ rfl (bkC y) rfl hrow ?_)
      | (gi_at_builtin; refine Stop.i ?_)
      | fail)
    refine wpListIn_app rfl _ _ 41 rfl v (.slice (some ⟨W2.heap.size + 1, 0, none⟩) 1 1) ?a1 ?a2 (.slice ao' (pre.length + 1) cc') w' ?a3 ?a4
    case a1 => rfl
    case a2 => rfl
    case a3 =>
      dsimp only
      with_reducible exact HRun.out
    case a4 =>
      clear rA hrow HRun
      gi_wp2
      rw [← HW7.out]
      exact HP.out
  case done =>
    rintro Dl ys W hD hys ⟨hu, v, S1, hcell, hsl, hf, h0, hs0, hcs0, hv1⟩ hK
    obtain ⟨-, -, -, g0, g1, g2, g3, hT, hU, hT4, hT5, hD', hDT, hD5, hDn⟩ := H5.out
    have hlen : ys.length = m := by have := congrArg List.length hys; simpa using this
    have hsec : ys.map (fun x => curB F O (base + x.1)) = secsOf F O base m := by
      unfold secsOf
      rw [← hys, List.map_map]
      rfl
    rw [hlen, hsec] at hsl
    obtain ⟨ao, cc, rfl⟩ := hsl.rd.nil_iff
    have clb := cell_of_block hcell 0
    have hlb := lt_of_block hcell
    have hnl : Nib W := H.out.2.2.1.keep (S := fun j => T j) ((hU.mono (fun _ _ h => h.elim)).trans hu) (fun h => by
      rw [hT] at h
      have := H.out.2.2.1.lt
      have hA := HA.out
      rcases h with h | h | h
      · exact H.out.2.2.2.1 h.1
      · omega
      · omega)
    have h64 : All64 (secsOf F O base m) := fun x hx => by
      obtain ⟨i, -, rfl⟩ := List.mem_map.1 hx
      exact curB_len h0.good _
    have hsl' := secsOf_len F O base m
    have HE := Lib.hid (pentries (w := W) (v := .slice ao m cc) (l := secsOf F O base m) (by rw [hsl']; exact hsl.rd) h64 (by omega) (by omega) hnl)
    have hA := HA.out
    have hgg : ∀ (j : Nat) (o : Obj), A ≤ j → j < A + 4 → w5.heap[j]? = some o → W.heap[j]? = some o := fun j o h1 h2 h => (hu.block j (lt_of_block h) (hTo _ h1 (.inl h2))).trans h
    have q1 := hgg _ _ (by omega) (by omega) g1
    have q2 := hgg _ _ (by omega) (by omega) g2
    have q3 := hgg _ _ (by omega) (by omega) g3
    have HV := Lib.hid (And.intro hu (And.intro hsl (And.intro hf (And.intro h0 (And.intro hs0 (And.intro hcs0 (And.intro hK (And.intro hU (And.intro hT (And.intro hD' (And.intro q1 (And.intro q2 q3))))))))))))
    generalize secsOf F O base m = l at *
    clear g0 g1 g2 g3 hT hU hT4 hT5 hD' hDT hD5 hDn hu hcell hsl hf h0 hs0 hcs0 hv1 hK hnl h64 hsec hys hgg q1 q2 q3 hA
    gi_wp2_with fail
    go_wp2_with fail
    refine HE.out.mono ?_
    rintro e W2 ⟨v2, rfl, hs2, hf2, hb2⟩
    obtain ⟨hu, hsl, hf, h0, hs0, hcs0, hK, hU, hT, hD', q1, q2, q3⟩ := HV.out
    have hu2 : Upd (fun _ => False) W W2 := Upd.of_below hb2
    have p1 := hu2.blockv q1
    have p2 := hu2.blockv q2
    have p3 := hu2.blockv q3
    have hK2 := hu2.blockv hK
    obtain ⟨ao2, cc2, rfl⟩ := hs2.rd.nil_iff
    have hA := HA.out
    have hWA : A + 8 ≤ W.heap.size := by have := hu.size; omega
    have hn := H.out.2.1
    have hfin : ∀ (x y z : Value), ∃ W3, W3 = (((W2.setCell ⟨A + 1, 0, none⟩ x).setCell ⟨A + 1 + 1, 0, none⟩ y).setCell ⟨A + 1 + 1 + 1, 0, none⟩ z).putObj Dl (.deferred none) ∧
        (((W2.setCell ⟨A + 1, 0, none⟩ x).setCell ⟨A + 1 + 1, 0, none⟩ y).setCell ⟨A + 1 + 1 + 1, 0, none⟩ z).heap[Dl]? = some (.deferred (some [])) ∧ W3.cell? ⟨A + 1, 0, none⟩ = some x ∧ W3.cell? ⟨A + 1 + 1, 0, none⟩ = some y ∧ W3.cell? ⟨A + 1 + 1 + 1, 0, none⟩ = some z ∧ Dv (fun j => S j ∧ j < W.heap.size) W3 b F O [] ∧ Upd S w W3 ∧ (∀ u n xs, Sl W2 37 4 u n xs → From W.heap.size u → Sl W3 37 4 u n xs) := by
      intro x y z
      have u1 := upd_setCell W2 (A + 1) 0 x
      have u2 := upd_setCell (W2.setCell ⟨A + 1, 0, none⟩ x) (A + 1 + 1) 0 y
      have u3 := upd_setCell ((W2.setCell ⟨A + 1, 0, none⟩ x).setCell ⟨A + 1 + 1, 0, none⟩ y) (A + 1 + 1 + 1) 0 z
      have s1 := heap_setCell_same p1 0 x
      have s2 := heap_setCell_same ((u1.block _ (lt_of_block p2) (by omega)).trans p2) 0 y
      have s3 := heap_setCell_same ((u2.block _ (by simpa using lt_of_block p3) (by omega)).trans ((u1.block _ (lt_of_block p3) (by omega)).trans p3)) 0 z
      have k1 := (u1.block _ (lt_of_block hK2) (by omega)).trans hK2
      have k2 := (u2.block _ (lt_of_block k1) (by omega)).trans k1
      have k3 := (u3.block _ (lt_of_block k2) (by omega)).trans k2
      have u4 := upd_put (((W2.setCell ⟨A + 1, 0, none⟩ x).setCell ⟨A + 1 + 1, 0, none⟩ y).setCell ⟨A + 1 + 1 + 1, 0, none⟩ z) Dl (.deferred none)
      have hUU : Upd (fun j => j = A + 1 ∨ j = A + 1 + 1 ∨ j = A + 1 + 1 + 1 ∨ j = Dl) W2 _ := (((u1.mono (fun _ _ h => .inl h)).trans (u2.mono (fun _ _ h => .inr (.inl h)))).trans (u3.mono (fun _ _ h => .inr (.inr (.inl h))))).trans (u4.mono (fun _ _ h => .inr (.inr (.inr h))))
      refine ⟨_, rfl, k3, ?_, ?_, ?_, ?_, ?_, ?_⟩
      · have s1' := (u2.block _ (lt_of_block s1) (by omega)).trans s1
        have s1'' := (u3.block _ (lt_of_block s1') (by omega)).trans s1'
        exact (u4.cellAt (lt_of_block s1'') (by omega)).trans (cell_of_block s1'' 0)
      · have s2' := (u3.block _ (lt_of_block s2) (by omega)).trans s2
        exact (u4.cellAt (lt_of_block s2') (by omega)).trans (cell_of_block s2' 0)
      · exact (u4.cellAt (lt_of_block s3) (by omega)).trans (cell_of_block s3 0)
      · have d1 := (h0.keep hu2 (fun _ _ h => h)).keep hUU (fun j hj h => by
          obtain ⟨cs, t, zz, hc⟩ := hcs0 j hj
          rcases h with h | h | h | h
          · exact hD5 j (by omega) (by omega) (hs0 j hj)
          · exact hD5 j (by omega) (by omega) (hs0 j hj)
          · exact hD5 j (by omega) (by omega) (hs0 j hj)
          · rw [h, hK] at hc; cases hc)
        exact d1.wide (fun j hj => by
          have := hs0 j hj
          obtain ⟨cs, t, zz, hc⟩ := hcs0 j hj
          rw [hD'] at this
          refine ⟨?_, lt_of_block hc⟩
          rcases this with h | h
          · exact h.1
          · exact hn j (by omega))
      · have hX : Upd (fun j => T j ∨ j = A + 1 ∨ j = A + 1 + 1 ∨ j = A + 1 + 1 + 1 ∨ j = Dl) w5 _ := ((hu.mono (fun _ _ h => .inl h)).trans (hu2.mono (fun _ _ h => h.elim))).trans (hUU.mono (fun _ _ h => .inr h))
        refine (hU.mono (fun _ _ h => h.elim)).new hX (fun i hi hs => ?_)
        rcases hs with hs | hs | hs | hs | hs
        · rw [hT] at hs
          rcases hs with hs | hs | hs
          · exact hs.1
          · omega
          · omega
        · omega
        · omega
        · omega
        · omega
      · intro u n xs h1 h2
        exact h1.keep hUU (fun g hg h => by
          have := h2 g hg
          rcases h with h | h | h | h
          · omega
          · omega
          · omega
          · obtain ⟨cs, t, zz, hc⟩ := h1.cellsAt hg
            rw [h, hK2] at hc; cases hc)
    have HF := Lib.hid (And.intro hfin (And.intro hs2 (And.intro hf2 hWA)))
    have f1 := frozen_of_block p1 0
    have f2 := frozen_of_block p2 0
    have f3 := frozen_of_block p3 0
    have d1 := cell_of_block p1 0
    have d2 := cell_of_block p2 0
    have d3 := cell_of_block p3 0
    have l3 := lt_of_block p3
    have HP3 := Lib.hid (And.intro p1 (And.intro p2 p3))
    clear hfin hs2 hf2 hWA hu hsl hf h0 hs0 hcs0 hK hU hT hD' q1 q2 q3 hu2 p1 p2 p3 hK2 hA hn hb2
    have hAw : w.heap.size ≤ W.heap.size := by have := HA.out; have := HF.out.2.2.2; omega
    cases hro : readOk l with
    | false =>
      simp only [hro] at HF
      rw [if_neg (by decide)] at HF ⊢
      have hO := Lib.hid hro
      clear hro
      go_wp2_with fail
      obtain ⟨W3, hW3, k3, c1, c2, c3, dv, up, sl⟩ := HF.out.1 (.int .i64 0) (.slice none 0 0) (.int .i64 14)
      refine ⟨by simp, .inl ⟨_, _, rfl, run_takeDeferred k3, ?_⟩⟩
      rw [← hW3]
      refine ⟨.tuple #[.int .i64 0, .slice none 0 0, .int .i64 14], by simp [results, Tryz.results35, go_sem, c1, c2, c3], .slice none 0 0, by rw [hO.out]; rfl, by rw [hO.out]; exact Sl.nil _ _ _, From.nil _ _ _, dv.wide (fun j hj => ⟨hj.1, fun g hg => by cases hg⟩), up⟩
    | true =>
      simp only [hro] at HF ⊢
      try simp only [if_true]
      have hO := Lib.hid hro
      clear hro
      go_wp2_with fail
      obtain ⟨W3, hW3, k3, c1, c2, c3, dv, up, sl⟩ := HF.out.1 (.int .i64 (readSeq l : Nat)) (.slice ao2 (readEs l).length cc2) (.int .i64 0)
      refine ⟨by simp, .inl ⟨_, _, rfl, run_takeDeferred k3, ?_⟩⟩
      rw [← hW3]
      refine ⟨.tuple #[.int .i64 (readSeq l : Nat), .slice ao2 (readEs l).length cc2, .int .i64 0], by simp [results, Tryz.results35, go_sem, c1, c2, c3], .slice ao2 (readEs l).length cc2, by rw [hO.out]; rfl, by rw [hO.out]; exact sl _ _ _ HF.out.2.1 HF.out.2.2.1, HF.out.2.2.1.mono hAw, dv.wide (fun j hj => ⟨hj.1, fun g hg => by have := HF.out.2.2.1 g hg; omega⟩), up⟩
end Go.Proofs.YtfhfbpmlnjdfoaaGreatDoor
namespace Go.Proofs.YtfhfbpmlnjdfoaaGreatDoor
open Go Go.RowKit
theorem flush_ckO (A : List Bk) (base : Nat) (B : List Bk) : ∀ k s, (flushF A (ckO base k B))[s]? = if base ≤ s ∧ s < base + k ∧ s < A.length then some (B.getD (s - base) zB) else A[s]?
  | 0, s => by rw [if_neg (by omega)]; rfl
  | k + 1, s => by
    rw [ckO_snoc, flushF_snoc, List.getElem?_set, flush_ckO A base B k s, flushF_len]
    show (if base + k = s then (if base + k < A.length then some (B.getD k zB) else none) else _) = _
    by_cases h : base + k = s
    · subst h
      rw [if_pos rfl]
      by_cases hl : base + k < A.length
      · rw [if_pos hl, if_pos (by omega), Nat.add_sub_cancel_left]
      · rw [if_neg hl, if_neg (by omega), List.getElem?_eq_none (by omega)]
    · rw [if_neg h]
      by_cases h1 : base ≤ s ∧ s < base + k ∧ s < A.length
      · rw [if_pos h1, if_pos (by omega)]
      · rw [if_neg h1, if_neg (by omega)]
theorem secs_at (F : List Bk) (O : List (Nat × Bk)) (base m i : Nat) (h : i < m) : (secsOf F O base m).getD i zB = curB F O (base + i) := by
  unfold secsOf
  rw [List.getD_eq_getElem?_getD, List.getElem?_map, List.getElem?_range h]
  rfl
theorem flush_ck (A : List Bk) (base : Nat) (B : List Bk) (k s : Nat) : (flushF A (ckO base k B)).getD s zB = if base ≤ s ∧ s < base + k ∧ s < A.length then B.getD (s - base) zB else A.getD s zB := by
  rw [List.getD_eq_getElem?_getD, flush_ckO]
  split
  · rfl
  · rw [List.getD_eq_getElem?_getD]
end Go.Proofs.YtfhfbpmlnjdfoaaGreatDoor
