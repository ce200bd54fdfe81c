/- Pages: build, of some entries. Pages: build, of no entries. Pages: Write of a checkpoint's sectors. Things in memory that do not share a block: to each block its owner, a number; 0: nobody's. A journal in memory; Cover of all that was added. The clock's row of keys: slices.Index, find (with its deferred closure). The clock's functions that recover: find, wasAsked (keys that can be compared: nothing panics). -/
import Derived.Test.YtfhfbpmlnjdfoaaGreatDoorA09
import Derived.Test.YtfhfbpmlnjdfoaaGreatDoorA13
import Derived.Test.YtfhfbpmlnjdfoaaGreatDoorA01
import Derived.Test.YtfhfbpmlnjdfoaaGreatDoorA14
import Derived.Defers
import Derived.Recover
namespace Go.Proofs.YtfhfbpmlnjdfoaaGreatDoor
open Go Go.RowKit
theorem rowC_snoc (F : List Bk) (x : Bk) : rowC (F ++ [x]) = rowC F ++ bkC x := by simp [rowC]
set_option maxRecDepth 100000 in
set_option maxHeartbeats 4000000 in
theorem build_some {w : World} {g o n c : Nat} (E : List Ent) (hE : E.length = n) (h1 : 1 ≤ n) (h2 : n ≤ 1024) (hr : w.rangeAt g o (E.flatMap entC)) (hc : n ≤ c) (hm : c ≤ maxLen) (seq : Nat) (hs : seq ≤ 1099511627776) (hok : ∀ x ∈ E, EntOk x) (hN : Nib w) :
    Calls Tryz.prog 191 #[.int .i64 (seq : Int), .slice (some ⟨g, o, none⟩) n c] w (BuildPost w seq E) := by
  obtain ⟨i0, hi, hb0⟩ := Option.map_eq_some_iff.1 infoBl
  simp only [Prod.mk.injEq] at hb0
  obtain ⟨hb1, hb2, hb3⟩ := hb0
  obtain ⟨z, hz, hzs⟩ := Option.map_eq_some_iff.1 hb1
  have hq : needN n ≤ 256 := by unfold needN; omega
  obtain ⟨Z, hZ, hmk⟩ : ∃ Z : Array Value, Z.size = needN n * 64 ∧ ∀ w : World, (Instr.makeSlice 41 (.int .i64 0) (.int .i64 (needN n : Int))).run Tryz.prog w = .ok (.slice (some ⟨w.heap.size, 0, none⟩) 0 (needN n)) (w.alloc (.cells Z 54)) := by
    refine ⟨madeCells z.cells (needN n * 64), by simp [size_madeCells], fun w => ?_⟩
    have := run_make (P := Tryz.prog) w 41 54 i0 z Tryz.underlying41 hi hz .i64 .i64 0 (needN n) (by omega) (by omega) (by rw [hb3]; omega) (by omega)
    rw [this]
    simp only [Int.toNat_natCast, hb2]
    rfl
  have HK := Lib.hid (And.intro hi (And.intro hz (And.intro hzs (And.intro hb2 hb3))))
  have H := Lib.hid (And.intro hr (And.intro hs (And.intro hok (And.intro hN (And.intro hE hZ)))))
  have hgl : g < w.heap.size := by
    have := hr 0 (.int .i64 ((E[0]'(by omega)).b : Int)) (by
      have h0 : 0 < E.length := by omega
      obtain ⟨x, l, rfl⟩ : ∃ x l, E = x :: l := by cases E with | nil => simp at h0 | cons x l => exact ⟨x, l, rfl⟩
      rfl)
    exact (addr_of_cell this).2
  have hq1 : 1 ≤ needN n := by unfold needN; omega
  have hqn : ∀ k, k < needN n → 4 * k < n := fun k hk => by unfold needN at hk; omega
  have hqm : needN n ≤ n := by unfold needN; omega
  have HQ := Lib.hid (And.intro hqn hqm)
  unfold maxLen at hm
  clear hr hs hok hN hE hi hz hzs hb1 hb2 hb3 hZ hqn
  generalize hnd : needN n = nd at *
  have HND := Lib.hid hnd
  go_enter Tryz.func191, Tryz.ntmps191
  go_wp2_with (first
    | (go_at_call 54; refine (need_nat n (by omega) _).mono ?_; rintro e w' ⟨rfl, rfl⟩; rw [hnd]; clear hnd)
    | fail)
  have hg0 := heap_alloc_last w (.cells Z 54) rfl
  have hb0 : Below w.heap.size w (w.alloc (.cells Z 54)) := (Below.refl _ w).alloc (Nat.le_refl _) _
  have hsl0 : Sl (w.alloc (.cells Z 54)) 54 64 (.slice (some ⟨w.heap.size, 0, none⟩) 0 nd) 0 (rowC (pagesTo seq E 0)) :=
    ⟨by simp [pagesTo, rowC], .inr ⟨w.heap.size, 0, nd, _, rfl, hg0, Nat.zero_le _, by unfold maxLen; omega, by rw [H.out.2.2.2.2.2]; omega, by simp [pagesTo, rowC]⟩⟩
  have hf0 : From w.heap.size (.slice (some ⟨w.heap.size, 0, none⟩) 0 nd) := fun g hg => by simp [Value.ownBlock] at hg; omega
  generalize w.alloc (.cells Z 54) = w1 at *
  have H1 := Lib.hid (And.intro hsl0 (And.intro hf0 hb0))
  clear hg0 hb0 hsl0 hf0 hmk
  go_loopw [7, 21] (fun s7 s21 wr => ∃ k : Nat, k ≤ nd ∧ s21 = .int .i64 k ∧ Sl wr 54 64 s7 k (rowC (pagesTo seq E k)) ∧ From w.heap.size s7 ∧ Below w.heap.size w wr) (fun _ s21 _ => nd - (intOf s21).toNat)
  case atStart => exact ⟨0, by omega, rfl, H1.out.1, H1.out.2.1, H1.out.2.2⟩
  case round =>
    obtain ⟨k, hk, rfl, hsl, hf, hb⟩ := hrel
    by_cases hlt : k < nd
    · have h4 := HQ.out.1 k hlt
      have b1 : (0 : Int) ≤ (k : Int) := by omega
      have HS := Lib.hid (And.intro hsl (And.intro hf hb))
      obtain ⟨ao, cc, rfl⟩ := hsl.rd.nil_iff
      obtain ⟨m, hm1⟩ : ∃ m, m = (partE E k).length := ⟨_, rfl⟩
      have hmE : m = min 4 (n - 4 * k) := by rw [hm1, partE, List.length_take, List.length_drop, H.out.2.2.2.2.1]
      have hm4 : m ≤ 4 := by omega
      have hmin : Nat.min m 4 = m := Nat.min_eq_left hm4
      obtain ⟨PG, hPG⟩ : ∃ PG : List Value, PG.toArray = pg0 seq k nd m := ⟨(pg0 seq k nd m).toList, rfl⟩
      have hPGl : PG.length = 20 := (congrArg Array.size hPG).trans (pg0_size seq k nd m)
      have hPG1 : ∀ v ∈ PG, v.oneCell' = true := by
        intro v hv
        have hv' : v ∈ pg0 seq k nd m := by rw [← hPG]; simpa using hv
        simp only [pg0, Array.mem_def, List.mem_cons, List.not_mem_nil, or_false] at hv'
        rcases hv' with rfl | rfl | rfl | rfl | rfl | rfl | rfl | rfl | rfl | rfl | rfl | rfl | rfl | rfl | rfl | rfl | rfl | rfl | rfl | rfl <;> rfl
      obtain ⟨w0, hw0⟩ : ∃ w0, w0 = wr.alloc (.cells PG.toArray 280) := ⟨_, rfl⟩
      have hg0 : w0.heap[wr.heap.size]? = some (.cells (pg0 seq k nd m) 280) := by rw [hw0, ← hPG]; exact heap_alloc_last wr _ rfl
      have hu0 : Upd (fun _ => False) wr w0 := by rw [hw0]; exact (Upd.refl _ wr).alloc _
      have hb0 : Below w.heap.size w w0 := hb.trans ((Upd.below hu0).mono hb.size)
      have hr0 := part_range (Below.range hb0 H.out.1) k
      obtain ⟨w3, hcp, hg3, hu3, hz3⟩ := copy_rowk (P := Tryz.prog) w0 22 22 37 4 wr.heap.size 4 4 4 ⟨g, o + k * 4 * 4, none⟩ m m _ _ ((partE E k).flatMap entC) Tryz.underlying22 infoEn hg0 (by rw [ents_len, ← hm1, hmin])
        (fun j v hj => by rw [Addr.add_lit]; exact hr0 j v hj) (by rw [ents_len, ← hm1, pg0_size]; omega) (fun v hv => by obtain ⟨x, -, hx⟩ := List.mem_flatMap.1 hv; exact entC_one x v hx)
      replace hg3 := pg_copy seq k nd m (partE E k) hm1.symm hm4 hg3
      rw [hmin] at hcp
      rw [hw0] at hcp
      have hp4 := pad_len (part_le E k)
      have hr3 := range_of_block hg3
      have hszP : (Tryz.prog.info? 280).map (·.size) = some (pgC seq k nd m (padE (partE E k))).length := by rw [pgC_len _ _ _ _ hp4]; exact infoPg
      have hb3 : Below w.heap.size w w3 := below_upd hb0 hu3 (Nat.le_refl _) (fun j e => by have := hb.size; omega)
      have hput := PutP_any (H.out.2.2.2.1.below hb3) (pgC seq k nd m (padE (partE E k))) (pgC_len _ _ _ _ hp4) (pageXs seq nd E k) (pageXs_len _ _ _ _) (fun W => by rw [pageXs, ← hm1]; exact tellP seq k nd m _ hp4)
      have hmay : Hid (mayP (pageXs seq nd E k) = true) := by
        show _ = _
        have := mayP_page (seq := seq) (E := E) (k := k) H.out.2.1 H.out.2.2.1 (by rw [H.out.2.2.2.2.1, HND.out]; exact hq) (by rw [H.out.2.2.2.2.1, HND.out]; exact hlt)
        rw [H.out.2.2.2.2.1, HND.out] at this
        exact this
      have hsl3 := hsl.keep ((hu0.mono (fun _ _ h => h.elim)).new hu3 (S' := fun j => j = wr.heap.size) (fun i hi e => e)) (fun j hj e => by have := hsl.lt hj; omega)
      have HPG := Lib.hid (And.intro hPG (And.intro hPGl hPG1))
      have hsi0 : Hid ((Tryz.prog.info? 280).map (·.size) = some PG.length) := by show _ = _; rw [hPGl]; exact infoPg
      have H3 := Lib.hid (And.intro hput (And.intro hsl3 (And.intro hb3 (And.intro hg3 hmE))))
      clear hsl hf hb hput hsl3 hb3 hg3 hu3 hz3 hu0 hb0 hr0 hg0 hm1 hw0 hmE hPG hPGl hPG1
      have hbr : ((k : Int) * 4 + 4 ≤ (n : Int) ∧ k * 4 + 4 - k * 4 = m ∧ ((k : Int) * 4 + 4).toNat = k * 4 + 4 ∧ (k : Int) * 4 ≤ (k : Int) * 4 + 4 ∧ (k : Int) * 4 + 4 ≤ (c : Int)) ∨ (¬ (k : Int) * 4 + 4 ≤ (n : Int) ∧ n - k * 4 = m ∧ (k : Int) * 4 ≤ (n : Int) ∧ (n : Int) ≤ (c : Int) ∧ (n : Int) < (k : Int) * 4 + 4) := by
        have := H3.out.2.2.2.2
        by_cases hc4 : (k : Int) * 4 + 4 ≤ (n : Int)
        · exact .inl ⟨hc4, by omega, by omega, by omega, by omega⟩
        · exact .inr ⟨hc4, by omega, by omega, by omega, by omega⟩
      obtain ⟨y, hy⟩ : ∃ y, y = sectP (pageXs seq nd E k) := ⟨_, rfl⟩
      have hyl : (bkC y).length = 64 := by rw [bkC_len, hy]; exact sectP_len (pageXs_len _ _ _ _)
      have hy64 : Hid ((Tryz.prog.info? 54).map (·.size) = some (bkC y).length) := by show _ = _; rw [hyl]; exact sizeBk'
      have HY := Lib.hid (And.intro hy (And.intro hyl (bkC_one y)))
      clear hy hyl
      rcases hbr with ⟨q1, q2, q3, q4, q5⟩ | ⟨q1, q2, q3, q4, q5⟩
      all_goals
        go_wp2_with (first
          | (refine wpList_build_pg rfl _ _ _ _ rfl seq k nd m (by rfl) (by rfl) (by rfl) (by rfl) PG.toArray HPG.out.1 ?_)
          | (refine wpList_store_new rfl _ _ _ rfl _ _ _ rfl rfl (by rw [HPG.out.2.1]; rfl) hsi0.out HPG.out.2.2 ?_)
          | (refine wpList_load_mid rfl _ _ rfl _ _ rfl _ _ hr3 Tryz.underlying280 rfl hszP ?_)
          | fail)
        refine H3.out.1.mono ?_
        rintro e w4 ⟨hr4, hb4⟩
        obtain rfl : e = .returned (.tuple #[.agg (bkC y).toArray, .int .i64 0]) := by
          rcases hr4 with ⟨-, h⟩ | ⟨h, -⟩
          · rw [h, HY.out.1]
          · rw [hmay.out] at h; cases h
        have hA := heap_alloc_last w4 (.cells (bkC y).toArray 54) rfl
        have rA := range_of_block hA
        have hu4 : Upd (fun _ => False) w3 w4 := Upd.of_below hb4
        have hua : Upd (fun _ => False) w4 (w4.alloc (.cells (bkC y).toArray 54)) := (Upd.refl _ _).alloc _
        have hsl5 := Lib.hid ((H3.out.2.1.keep hu4 (fun _ _ h => h)).keep hua (fun _ _ h => h))
        have H4 := Lib.hid (And.intro hu4 hua)
        clear hr4 hb4 hu4 hua hA q1 q2 q3 q4 q5 hcp hr3
        go_wp2_with (first
          | (refine wpList_store_new rfl _ _ _ rfl _ _ _ rfl rfl (by rw [HY.out.2.1]; rfl) hy64.out HY.out.2.2 ?_)
          | (refine wpList_load_mid rfl _ _ rfl _ _ rfl _ _ rA Tryz.underlying54 rfl hy64.out ?_)
          | (refine wpList_row rfl 41 54 _ rfl 64 (by decide) Tryz.underlying41 ⟨i0, z, HK.out.1, HK.out.2.1, HK.out.2.2.1, HK.out.2.2.2.1⟩ (by decide) (bkC y) rfl HY.out.2.1 ?_)
          | (at_builtin; refine wpList_append_one rfl _ _ _ rfl i0 z 64 Tryz.underlying41 HK.out.1 HK.out.2.1 HK.out.2.2.2.1 HK.out.2.2.2.2 HK.out.2.2.1 (by decide) rfl hsl5.out (bkC y) (by rfl) HY.out.2.1 HY.out.2.2 (by unfold maxLen; omega) (by omega) ?_; intro v' w11 hs11 hu11 hbf)
          | fail)
        replace hu11 : Upd (ownS (.slice ao k cc)) (w4.alloc (.cells (bkC y).toArray 54)) w11 := hu11
        replace hbf : blockFrom (w4.alloc (.cells (bkC y).toArray 54)) (.slice ao k cc) v' := hbf
        have HZ := Lib.hid (And.intro hs11 (And.intro hu11 hbf))
        clear hs11 hu11 hbf rA
        go_roundw
        case rel =>
          obtain ⟨hs11, hu11, hbf⟩ := HZ.out
          have hB4 : Below w.heap.size w (w4.alloc (.cells (bkC y).toArray 54)) := below_upd H3.out.2.2.1 (H4.out.1.trans H4.out.2) (Nat.le_refl _) (fun _ h => h.elim)
          refine ⟨k + 1, by omega, by go_num, ?_, hbf.ge hB4.size HS.out.2.1, below_upd hB4 hu11 (Nat.le_refl _) HS.out.2.1.own⟩
          rw [pagesTo_succ, H.out.2.2.2.2.1, HND.out, rowC_snoc]
          rw [HY.out.1] at hs11
          exact hs11
        case measure => simp [intOf]; omega
    · obtain rfl : k = nd := by omega
      have HS := Lib.hid (And.intro hsl (And.intro hf hb))
      obtain ⟨ao, cc, rfl⟩ := hsl.rd.nil_iff
      clear hsl hf hb
      go_wp2
      go_ret2
      exact ⟨_, rfl, by unfold pagesB; rw [H.out.2.2.2.2.1, HND.out]; exact HS.out.1, HS.out.2.1, HS.out.2.2⟩
set_option maxRecDepth 100000 in
set_option maxHeartbeats 4000000 in
theorem build_nil {w : World} (seq : Nat) (hs : seq ≤ 1099511627776) (hN : Nib w) :
    Calls Tryz.prog 191 #[.int .i64 (seq : Int), .slice none 0 0] w (BuildPost w seq []) := by
  obtain ⟨i0, z, hi, hz, hzs, hsz, hby⟩ := infoBl_parts
  obtain ⟨Z, hZ, hmk⟩ : ∃ Z : Array Value, Z.size = 64 ∧ ∀ w : World, (Instr.makeSlice 41 (.int .i64 0) (.int .i64 1)).run Tryz.prog w = .ok (.slice (some ⟨w.heap.size, 0, none⟩) 0 1) (w.alloc (.cells Z 54)) := by
    refine ⟨madeCells z.cells (1 * 64), by simp [size_madeCells], fun w => ?_⟩
    have := run_make (P := Tryz.prog) w 41 54 i0 z Tryz.underlying41 hi hz .i64 .i64 0 1 (by omega) (by omega) (by rw [hby]; omega) (by omega)
    rw [this]
    simp only [hsz]
    rfl
  have HK := Lib.hid (And.intro hi (And.intro hz (And.intro hzs (And.intro hsz hby))))
  have H := Lib.hid (And.intro hs (And.intro hN hZ))
  have hcp := fun (w : World) (g : Nat) (ty : TypeId) => run_copy_none (P := Tryz.prog) w 22 22 ty 37 4 g 4 4 4 Tryz.underlying22 infoEn
  clear hi hz hzs hsz hby hs hN hZ
  go_enter Tryz.func191, Tryz.ntmps191
  go_wp2_with (first
    | (go_at_call 54; refine (need_zero _).mono ?_; rintro e w' ⟨rfl, rfl⟩)
    | fail)
  have hg0 := heap_alloc_last w (.cells Z 54) rfl
  have hb0 : Below w.heap.size w (w.alloc (.cells Z 54)) := (Below.refl _ w).alloc (Nat.le_refl _) _
  have hsl0 : Sl (w.alloc (.cells Z 54)) 54 64 (.slice (some ⟨w.heap.size, 0, none⟩) 0 1) 0 (rowC (pagesTo seq [] 0)) :=
    ⟨by simp [pagesTo, rowC], .inr ⟨w.heap.size, 0, 1, _, rfl, hg0, Nat.zero_le _, by unfold maxLen; omega, by rw [H.out.2.2]; omega, by simp [pagesTo, rowC]⟩⟩
  have hf0 : From w.heap.size (.slice (some ⟨w.heap.size, 0, none⟩) 0 1) := fun g hg => by simp [Value.ownBlock] at hg; omega
  generalize w.alloc (.cells Z 54) = w1 at *
  have H1 := Lib.hid (And.intro hsl0 (And.intro hf0 hb0))
  clear hg0 hb0 hsl0 hf0 hmk
  go_loopw [7, 21] (fun s7 s21 wr => ∃ k : Nat, k ≤ 1 ∧ s21 = .int .i64 k ∧ Sl wr 54 64 s7 k (rowC (pagesTo seq [] k)) ∧ From w.heap.size s7 ∧ Below w.heap.size w wr) (fun _ s21 _ => 1 - (intOf s21).toNat)
  case atStart => exact ⟨0, by omega, rfl, H1.out.1, H1.out.2.1, H1.out.2.2⟩
  case round =>
    obtain ⟨k, hk, rfl, hsl, hf, hb⟩ := hrel
    by_cases hlt : k < 1
    · obtain rfl : k = 0 := by omega
      have HS := Lib.hid (And.intro hsl (And.intro hf hb))
      obtain ⟨ao, cc, rfl⟩ := hsl.rd.nil_iff
      obtain ⟨PG, hPG⟩ : ∃ PG : List Value, PG.toArray = pg0 seq 0 1 0 := ⟨(pg0 seq 0 1 0).toList, rfl⟩
      have hPGl : PG.length = 20 := (congrArg Array.size hPG).trans (pg0_size seq 0 1 0)
      have hPG1 : ∀ v ∈ PG, v.oneCell' = true := by
        intro v hv
        have hv' : v ∈ pg0 seq 0 1 0 := by rw [← hPG]; simpa using hv
        simp only [pg0, Array.mem_def, List.mem_cons, List.not_mem_nil, or_false] at hv'
        rcases hv' with rfl | rfl | rfl | rfl | rfl | rfl | rfl | rfl | rfl | rfl | rfl | rfl | rfl | rfl | rfl | rfl | rfl | rfl | rfl | rfl <;> rfl
      have hu0 : Upd (fun _ => False) wr (wr.alloc (.cells PG.toArray 280)) := (Upd.refl _ wr).alloc _
      have hr3 := range_of_block (heap_alloc_last wr (.cells PG.toArray 280) rfl)
      have hb3 : Below w.heap.size w (wr.alloc (.cells PG.toArray 280)) := hb.trans ((Upd.below hu0).mono hb.size)
      have hPGe : PG = pgC seq 0 1 0 (padE (partE [] 0)) := by have := congrArg Array.toList (hPG.trans (pg_nil seq)); simpa using this
      have hp4 : (padE (partE [] 0)).length = 4 := rfl
      have hput := PutP_any (H.out.2.1.below hb3) PG hPGl (pageXs seq 1 [] 0) (pageXs_len _ _ _ _) (fun W => by rw [hPGe]; exact tellP seq 0 1 0 _ hp4)
      have hmay : Hid (mayP (pageXs seq 1 [] 0) = true) := mayP_page (seq := seq) (E := []) (k := 0) H.out.1 (by simp) (by decide) (by decide)
      have hsl3 := hsl.keep hu0 (fun _ _ h => h)
      have HPG := Lib.hid (And.intro hPG (And.intro hPGl hPG1))
      have hsi0 : Hid ((Tryz.prog.info? 280).map (·.size) = some PG.length) := by show _ = _; rw [hPGl]; exact infoPg
      have H3 := Lib.hid (And.intro hput (And.intro hsl3 hb3))
      obtain ⟨y, hy⟩ : ∃ y, y = sectP (pageXs seq 1 [] 0) := ⟨_, rfl⟩
      have hyl : (bkC y).length = 64 := by rw [bkC_len, hy]; exact sectP_len (pageXs_len _ _ _ _)
      have hy64 : Hid ((Tryz.prog.info? 54).map (·.size) = some (bkC y).length) := by show _ = _; rw [hyl]; exact sizeBk'
      have HY := Lib.hid (And.intro hy (And.intro hyl (bkC_one y)))
      clear hsl hf hb hput hsl3 hb3 hu0 hPG hPGl hPG1 hPGe hp4 hy hyl
      simp only [Int.natCast_zero] at *
      go_wp2_with (first
        | (refine wpList_build_pg rfl _ _ _ _ rfl seq 0 1 0 (by rfl) (by rfl) (by rfl) (by rfl) PG.toArray HPG.out.1 ?_)
        | (refine wpList_store_new rfl _ _ _ rfl _ _ _ rfl rfl (by rw [HPG.out.2.1]; rfl) hsi0.out HPG.out.2.2 ?_)
        | (refine wpList_load_mid rfl _ _ rfl _ _ rfl _ _ hr3 Tryz.underlying280 rfl hsi0.out ?_)
        | fail)
      refine H3.out.1.mono ?_
      rintro e w4 ⟨hr4, hb4⟩
      obtain rfl : e = .returned (.tuple #[.agg (bkC y).toArray, .int .i64 0]) := by
        rcases hr4 with ⟨-, h⟩ | ⟨h, -⟩
        · rw [h, HY.out.1]
        · rw [hmay.out] at h; cases h
      have hA := heap_alloc_last w4 (.cells (bkC y).toArray 54) rfl
      have rA := range_of_block hA
      have hu4 : Upd (fun _ => False) (wr.alloc (.cells PG.toArray 280)) w4 := Upd.of_below hb4
      have hua : Upd (fun _ => False) w4 (w4.alloc (.cells (bkC y).toArray 54)) := (Upd.refl _ _).alloc _
      have hsl5 := Lib.hid ((H3.out.2.1.keep hu4 (fun _ _ h => h)).keep hua (fun _ _ h => h))
      have H4 := Lib.hid (And.intro hu4 hua)
      clear hr4 hb4 hu4 hua hA hcp hr3
      go_wp2_with (first
        | (refine wpList_store_new rfl _ _ _ rfl _ _ _ rfl rfl (by rw [HY.out.2.1]; rfl) hy64.out HY.out.2.2 ?_)
        | (refine wpList_load_mid rfl _ _ rfl _ _ rfl _ _ rA Tryz.underlying54 rfl hy64.out ?_)
        | (refine wpList_row rfl 41 54 _ rfl 64 (by decide) Tryz.underlying41 ⟨i0, z, HK.out.1, HK.out.2.1, HK.out.2.2.1, HK.out.2.2.2.1⟩ (by decide) (bkC y) rfl HY.out.2.1 ?_)
        | (at_builtin; refine wpList_append_one rfl _ _ _ rfl i0 z 64 Tryz.underlying41 HK.out.1 HK.out.2.1 HK.out.2.2.2.1 HK.out.2.2.2.2 HK.out.2.2.1 (by decide) rfl hsl5.out (bkC y) (by rfl) HY.out.2.1 HY.out.2.2 (by unfold maxLen; omega) (by omega) ?_; intro v' w11 hs11 hu11 hbf)
        | fail)
      replace hu11 : Upd (ownS (.slice ao 0 cc)) (w4.alloc (.cells (bkC y).toArray 54)) w11 := hu11
      replace hbf : blockFrom (w4.alloc (.cells (bkC y).toArray 54)) (.slice ao 0 cc) v' := hbf
      have HZ := Lib.hid (And.intro hs11 (And.intro hu11 hbf))
      clear hs11 hu11 hbf rA
      go_roundw
      case rel =>
        obtain ⟨hs11, hu11, hbf⟩ := HZ.out
        have hB4 : Below w.heap.size w (w4.alloc (.cells (bkC y).toArray 54)) := below_upd H3.out.2.2 (H4.out.1.trans H4.out.2) (Nat.le_refl _) (fun _ h => h.elim)
        refine ⟨1, by omega, by go_num, ?_, hbf.ge hB4.size HS.out.2.1, below_upd hB4 hu11 (Nat.le_refl _) HS.out.2.1.own⟩
        rw [pagesTo_succ, rowC_snoc]
        rw [HY.out.1] at hs11
        exact hs11
      case measure => simp [intOf]
    · obtain rfl : k = 1 := by omega
      have HS := Lib.hid (And.intro hsl (And.intro hf hb))
      obtain ⟨ao, cc, rfl⟩ := hsl.rd.nil_iff
      clear hsl hf hb
      go_wp2
      go_ret2
      exact ⟨_, rfl, HS.out.1, HS.out.2.1, HS.out.2.2⟩
end Go.Proofs.YtfhfbpmlnjdfoaaGreatDoor
namespace Go.Proofs.YtfhfbpmlnjdfoaaGreatDoor
open Go Go.RowKit Go.Shelf
attribute [local go_sem] Oper.semAt_some
theorem Dv.exact {S : Nat → Prop} {w : World} {b : Nat} {F : List Bk} {O : List (Nat × Bk)} {P : List Int} (h : Dv S w b F O P) : ∃ S0 : Nat → Prop, Dv S0 w b F O P ∧ (∀ j, S0 j → S j) ∧ ∀ j, S0 j → ∃ cs t z, w.heap[j]? = some (.cells cs t z) := by
  obtain ⟨vf, vo, vp, h, hs⟩ := h
  exact ⟨dvS b vf vo vp, ⟨vf, vo, vp, h, fun _ hj => hj⟩, hs, fun j hj => by obtain ⟨cs, t, hc⟩ := h.cells j hj; exact ⟨cs, t, _, hc⟩⟩
theorem ckO_snoc (base i : Nat) (B : List Bk) : ckO base (i + 1) B = ckO base i B ++ [ckW base B i] := by simp [ckO, List.range_succ]
end Go.Proofs.YtfhfbpmlnjdfoaaGreatDoor
namespace Go.Proofs.YtfhfbpmlnjdfoaaGreatDoor
open Go Go.RowKit
structure Thing (R : (Nat → Prop) → World → Prop) : Prop where
  keep : ∀ {S T : Nat → Prop} {w w' : World}, R S w → Upd T w w' → (∀ j, S j → ¬ T j) → R S w'
  out : ∀ {S S' : Nat → Prop} {w : World}, R S w → (∀ j, j < w.heap.size → S j → S' j) → R S' w
def grow (own : Nat → Nat) (t n n' : Nat) : Nat → Nat := fun j => if n ≤ j ∧ j < n' then t else own j
theorem grow_old {own : Nat → Nat} {t n n' j : Nat} (h : j < n) : grow own t n n' j = own j := if_neg (by omega)
theorem grow_new {own : Nat → Nat} {t n n' j : Nat} (h : n ≤ j) (h' : j < n') : grow own t n n' j = t := if_pos ⟨h, h'⟩
structure Did (own own' : Nat → Nat) (w w' : World) : Prop where
  upd : Upd (fun j => own j ≠ 0 ∧ own j < 16) w w'
  old : ∀ j, j < w.heap.size → own' j = own j
  new : ∀ j, w.heap.size ≤ j → own' j < 16
  far : ∀ j, w'.heap.size ≤ j → own' j = 0
section
variable {own own' own2 : Nat → Nat} {w w' w2 : World} {R : (Nat → Prop) → World → Prop} {t k : Nat}
theorem Did.refl (h : ∀ j, w.heap.size ≤ j → own j = 0) : Did own own w w := ⟨Upd.refl _ _, fun _ _ => rfl, fun j hj => by rw [h j hj]; decide, h⟩
theorem Did.trans (h : Did own own' w w') (g : Did own' own2 w' w2) : Did own own2 w w2 where
  upd := h.upd.new g.upd (fun j hj hs => by rw [← h.old j hj]; exact hs)
  old := fun j hj => (g.old j (Nat.lt_of_lt_of_le hj h.upd.size)).trans (h.old j hj)
  new := fun j hj => by
    by_cases hl : j < w'.heap.size
    · rw [g.old j hl]; exact h.new j hj
    · exact g.new j (by omega)
  far := g.far
theorem Did.setCell (h : Did own own' w w') (p : Addr) (hp : p.block < w.heap.size → own p.block ≠ 0 ∧ own p.block < 16) (u : Value) : Did own own' w (w'.setCell p u) :=
  ⟨h.upd.setCell p hp u, h.old, h.new, fun j hj => h.far j (by simpa using hj)⟩
theorem Did.step (hf : ∀ j, w.heap.size ≤ j → own j = 0) (ht : t ≠ 0) (h16 : t < 16) (hu : Upd (fun j => own j = t ∨ w.heap.size ≤ j) w w') : Did own (grow own t w.heap.size w'.heap.size) w w' where
  upd := hu.mono (fun j hj hs => by rcases hs with hs | hs; exact hs ▸ ⟨ht, h16⟩; omega)
  old := fun j hj => grow_old hj
  new := fun j hj => by
    unfold grow
    split
    · exact h16
    · rw [hf j hj]; decide
  far := fun j hj => by
    have := hu.size
    unfold grow
    rw [if_neg (by omega)]
    exact hf j (by omega)
theorem Thing.other (hR : Thing R) (h : R (fun j => own j = k) w) (hk : k ≠ t) (hu : Upd (fun j => own j = t ∨ w.heap.size ≤ j) w w') : R (fun j => grow own t w.heap.size w'.heap.size j = k) w' := by
  have h1 : R (fun j => own j = k ∧ j < w.heap.size) w := hR.out h (fun j hj hs => ⟨hs, hj⟩)
  have h2 := hR.keep h1 hu (fun j hs ht => by rcases ht with ht | ht; exact hk (hs.1.symm.trans ht); omega)
  exact hR.out h2 (fun j hj hs => by rw [grow_old hs.2]; exact hs.1)
theorem Thing.mine (hR : Thing R) (_hu : w.heap.size ≤ w'.heap.size) (h : R (fun j => own j = t ∨ w.heap.size ≤ j) w') : R (fun j => grow own t w.heap.size w'.heap.size j = t) w' :=
  hR.out h (fun j hj hs => by
    by_cases hl : w.heap.size ≤ j
    · exact grow_new hl hj
    · rw [grow_old (by omega)]; exact hs.resolve_right hl)
theorem Thing.open (hR : Thing R) (h : R (fun j => own j = t) w) : R (fun j => own j = t ∨ w.heap.size ≤ j) w := hR.out h (fun _ _ hs => .inl hs)
theorem Thing.new (hR : Thing R) {S : Nat → Prop} (h : R S w) (hu : Upd (fun _ => False) w w') : R S w' := hR.keep h hu (fun _ _ h => h)
end
structure JnGood (base n cov next : Nat) (W : List (Nat × Bk)) : Prop where
  w64 : ∀ p ∈ W, p.2.length = 64
  lt : ∀ p ∈ W, p.1 < next
  n1 : 1 ≤ n ∧ n ≤ 1024
  wl : W.length + cov + 1 ≤ next
  room : next ≤ cov + n + 1
  mx : next ≤ 1099511627777
  bs : base ≤ 4096
structure JnAt (w : World) (j : Nat) (vw : Value) (d base n cov next : Nat) (W : List (Nat × Bk)) : Prop where
  str : w.heap[j]? = some (.cells #[.pointer (some ⟨d, 0, none⟩), .int .i64 base, .int .i64 n, .int .i64 cov, .int .i64 next, vw] 276 (0, 0))
  ws : Sl w 289 65 vw W.length (opC W)
  wb : vw.ownBlock ≠ some j
  good : JnGood base n cov next W
def jnS (j : Nat) (vw : Value) : Nat → Prop := fun k => k = j ∨ vw.ownBlock = some k
section
variable {w w' : World} {j d base n cov next : Nat} {vw : Value} {W : List (Nat × Bk)}
theorem JnAt.keep (h : JnAt w j vw d base n cov next W) {S : Nat → Prop} (hu : Upd S w w') (hs : ∀ k, jnS j vw k → ¬ S k) : JnAt w' j vw d base n cov next W :=
  { h with
    str := (hu.block _ (lt_of_block h.str) (hs j (.inl rfl))).trans h.str
    ws := h.ws.keep hu (fun g hg => hs g (.inr hg)) }
theorem JnAt.new (h : JnAt w j vw d base n cov next W) (hu : Upd (fun _ => False) w w') : JnAt w' j vw d base n cov next W := h.keep hu (fun _ _ h => h)
theorem JnAt.slt (h : JnAt w j vw d base n cov next W) : ∀ k, jnS j vw k → k < w.heap.size := by
  rintro k (rfl | hk)
  · exact lt_of_block h.str
  · exact h.ws.lt hk
theorem JnAt.c (h : JnAt w j vw d base n cov next W) : w.cell? ⟨j, 0, none⟩ = some (.pointer (some ⟨d, 0, none⟩)) ∧ w.cell? ⟨j, 1, none⟩ = some (.int .i64 base) ∧ w.cell? ⟨j, 2, none⟩ = some (.int .i64 n) ∧
    w.cell? ⟨j, 3, none⟩ = some (.int .i64 cov) ∧ w.cell? ⟨j, 4, none⟩ = some (.int .i64 next) ∧ w.cell? ⟨j, 5, none⟩ = some vw := by
  refine ⟨?_, ?_, ?_, ?_, ?_, ?_⟩ <;> rw [cell_of_block h.str] <;> rfl
theorem JnAt.fz (h : JnAt w j vw d base n cov next W) (i : Nat) : w.frozen? ⟨j, i, none⟩ = false := frozen_of_block h.str i
structure WtAt (w : World) (vw : Value) (next : Nat) (W : List (Nat × Bk)) : Prop where
  ws : Sl w 289 65 vw W.length (opC W)
  w64 : ∀ p ∈ W, p.2.length = 64
  lt : ∀ p ∈ W, p.1 < next
  wl : W.length + 1 ≤ next
  mx : next ≤ 1099511627777
theorem JnAt.wt (h : JnAt w j vw d base n cov next W) : WtAt w vw next W := ⟨h.ws, h.good.w64, h.good.lt, by have := h.good.wl; omega, h.good.mx⟩
theorem WtAt.keep (h : WtAt w vw next W) {S : Nat → Prop} (hu : Upd S w w') (hs : ∀ k, vw.ownBlock = some k → ¬ S k) : WtAt w' vw next W := { h with ws := h.ws.keep hu hs }
theorem WtAt.new (h : WtAt w vw next W) (hu : Upd (fun _ => False) w w') : WtAt w' vw next W := h.keep hu (fun _ _ h => h)
theorem WtAt.range (h : WtAt w vw next W) {k : Nat} (hk : k < W.length) : ∃ g off cap, vw = .slice (some ⟨g, off, none⟩) W.length cap ∧ g < w.heap.size ∧ W.length ≤ cap ∧ w.rangeAt g (off + k * 65) (wrC W[k].1 W[k].2) := by
  obtain ⟨hl, ⟨_, h0⟩ | ⟨g, off, cap, cur, rfl, hg, hn, hm, hs, hc⟩⟩ := h.ws
  · omega
  · refine ⟨g, off, cap, rfl, lt_of_block hg, hn, fun j v hj => ?_⟩
    have hj' := (List.getElem?_eq_some_iff.1 hj).1
    rw [wrC_len, h.w64 _ (List.getElem_mem hk)] at hj'
    rw [cell_of_block hg, Nat.add_assoc]
    exact hc _ _ (by rw [opC_at h.w64 hk hj']; exact hj)
end
def Jn (S : Nat → Prop) (w : World) (j d base n cov next : Nat) (W : List (Nat × Bk)) : Prop := ∃ vw, JnAt w j vw d base n cov next W ∧ ∀ k, jnS j vw k → S k
theorem Jn.thing (j d base n cov next : Nat) (W : List (Nat × Bk)) : Thing (fun S w => Jn S w j d base n cov next W) where
  keep := fun h hu hs => by
    obtain ⟨v, h, hS⟩ := h
    exact ⟨v, h.keep hu (fun j hj => hs j (hS j hj)), hS⟩
  out := fun h hs => by
    obtain ⟨v, h, hS⟩ := h
    exact ⟨v, h, fun j hj => hs j (h.slt j hj) (hS j hj)⟩
theorem Jn.good {S : Nat → Prop} {w : World} {j d base n cov next : Nat} {W : List (Nat × Bk)} (h : Jn S w j d base n cov next W) : JnGood base n cov next W := by obtain ⟨v, h, -⟩ := h; exact h.good
theorem jnext_any {S : Nat → Prop} {w : World} {j d base n cov next : Nat} {W : List (Nat × Bk)} (h : Jn S w j d base n cov next W) :
    Calls Tryz.prog 154 #[.pointer (some ⟨j, 0, none⟩)] w fun e w' => e = .returned (.int .i64 (next : Int)) ∧ w = w' := by
  obtain ⟨v, h, -⟩ := h
  obtain ⟨c0, c1, c2, c3, c4, c5⟩ := h.c
  exact jnext w j d base n cov next ⟨c0, c1, c2, c3, c4⟩
theorem jnew_any {S : Nat → Prop} {T : Nat → Prop} {w : World} {b : Nat} {F : List Bk} {O : List (Nat × Bk)} {P : List Int} (h : Dv T w b F O P) (hn : ∀ j, w.heap.size ≤ j → S j) (base n seq : Nat) (h1 : 1 ≤ n) (h2 : n ≤ 1024) (h3 : base + n ≤ F.length) (h5 : seq < 1099511627776) :
    Calls Tryz.prog 131 #[.pointer (some ⟨b, 0, none⟩), .int .i64 (base : Int), .int .i64 (n : Int), .int .i64 (seq : Int)] w fun e w' => ∃ j, e = .returned (.tuple #[.pointer (some ⟨j, 0, none⟩), .int .i64 0]) ∧
      Jn S w' j b base n seq (seq + 1) [] ∧ w.heap.size ≤ j ∧ Below w.heap.size w w' := by
  have h4 := h.good.fl
  have q1 : decide ((seq : Int) < 0) = false := by simp
  have q2 : decide ((seq : Int) ≥ 1099511627776) = false := by simp; omega
  have hs : ¬ (1099511627776 ≤ (seq : Int)) := by omega
  go_enter Tryz.func131, Tryz.ntmps131
  go_wp2_with (first
    | (go_at_call 103; refine (jmay_ok h base n h1 h2 h3 h4).mono ?_; rintro e w' ⟨rfl, rfl⟩)
    | fail)
  go_ret2
  have hb := heap_alloc_last w (.cells #[.pointer (some ⟨b, 0, none⟩), .int .i64 (base : Int), .int .i64 (n : Int), .int .i64 (seq : Int), .int .i64 ((seq : Int) + 1), .slice none 0 0] 276) rfl
  refine ⟨w.heap.size, rfl, ⟨.slice none 0 0, ⟨?_, Sl.nil _ _ _, by simp [Value.ownBlock], ⟨by simp, by simp, ⟨h1, h2⟩, by simp, by omega, by omega, by omega⟩⟩, ?_⟩, Nat.le_refl _, (Below.refl _ w).alloc (Nat.le_refl _) _⟩
  · rw [hb]
    simp
  · rintro k (rfl | hk)
    · exact hn _ (Nat.le_refl _)
    · cases hk
theorem infoWt : (Tryz.prog.info? 289).map (·.size) = some 65 := by kernel_rfl
theorem sizeWt (s : Int) (x : Bk) (hx : x.length = 64) : (Tryz.prog.info? 289).map (·.size) = some (wrC s x).length := by
  rw [infoWt, wrC_len, hx]
theorem zero_wt : Tryz.zeroCells289.size = 65 := by kernel_rfl
set_option maxRecDepth 100000 in
theorem jcov1 (w : World) (q : Nat) (s : Int) (hq : w.cell? ⟨q, 0, none⟩ = some (.int .i64 s)) (x : Nat) (y : Bk) (hx : (x : Int) ≤ s) :
    Calls Tryz.prog 219 #[.agg (wrC (x : Int) y).toArray, .pointer (some ⟨q, 0, none⟩)] w fun e w' => e = .returned (.bool true) ∧ Below w.heap.size w w' := by
  have hqb : q < w.heap.size := (addr_of_cell hq).2
  obtain ⟨L, hL⟩ : ∃ L, L = (wrC (x : Int) y).toArray := ⟨_, rfl⟩
  have h0 : L[0]? = some (.int .i64 (x : Int)) := by rw [hL]; rfl
  have q1 : decide ((x : Int) ≤ s) = true := by simpa using hx
  have hq1 : (w.alloc (.cells L 289)).cell? ⟨q, 0, none⟩ = some (.int .i64 s) := cell_keep_alloc hq _
  have hc : (w.alloc (.cells L 289)).cell? ⟨w.heap.size, 0, none⟩ = some (.int .i64 (x : Int)) := (cell_of_block (heap_alloc_last w _ rfl) 0).trans h0
  rw [← hL]
  clear hL hq
  go_enter Tryz.func219, Tryz.ntmps219
  go_wp2
  go_ret
  exact ⟨rfl, (Below.refl _ _).alloc (Nat.le_refl _) _⟩
end Go.Proofs.YtfhfbpmlnjdfoaaGreatDoor
