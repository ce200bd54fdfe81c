/- Pages: their numbers. Records: their numbers, which may be. A thing of the kind Record, as a sector. The form of the kind Record; Put of a thing. A record's numbers. -/
import Derived.Test.YtfhfbpmlnjdfoaaGreatDoorG09
import Derived.Laws.Cover3
import Derived.Test.YtfhfbpmlnjdfoaaGreatDoorG03
import Derived.Laws.EntriesVeiled
namespace Go.Proofs.YtfhfbpmlnjdfoaaGreatDoor
open Go Go.RowKit
structure Ent where
  b : Nat
  s : Nat
  d : Bool
  m : Nat
def Ent.none : Ent := ⟨0, 0, false, 0⟩
def bitN (d : Bool) : Nat := if d then 1 else 0
def entC (x : Ent) : List Value := [.int .i64 (x.b : Int), .int .i64 (x.s : Int), .bool x.d, .int .i64 (x.m : Int)]
def entN (x : Ent) : List Nat := [x.b, x.s, bitN x.d, x.m]
def pgC (seq no of many : Nat) (E : List Ent) : List Value := [.int .i64 (seq : Int), .int .i64 (no : Int), .int .i64 (of : Int), .int .i64 (many : Int)] ++ E.flatMap entC
def pgN (seq no of many : Nat) (E : List Ent) : List Nat := [seq, no, of, many] ++ E.flatMap entN
theorem entC_len (x : Ent) : (entC x).length = 4 := rfl
theorem entC_one (x : Ent) : ∀ v ∈ entC x, v.oneCell' = true := by
  intro v hv
  simp only [entC, List.mem_cons, List.not_mem_nil, or_false] at hv
  rcases hv with rfl | rfl | rfl | rfl <;> rfl
theorem ents_len (E : List Ent) : (E.flatMap entC).length = E.length * 4 := length_flat (f := entC) (fun _ => rfl) E
theorem ents_at {E : List Ent} {i : Nat} (hi : i < E.length) : ((E.flatMap entC).drop (i * 4)).take 4 = entC (E.getD i Ent.none) := by
  induction E generalizing i with
  | nil => simp at hi
  | cons x E ih =>
    cases i with
    | zero => rfl
    | succ i =>
      rw [List.flatMap_cons, show (i + 1) * 4 = (entC x).length + i * 4 by rw [entC_len]; omega, List.drop_length_add_append]
      simpa using ih (i := i) (by simpa using hi)
theorem bit_any (d : Bool) (w : World) : Calls Tryz.prog 251 #[.bool d] w fun e w' => e = .returned (.int .i64 (bitN d : Int)) ∧ w = w' := by
  cases d
  all_goals
    go_enter Tryz.func251, Tryz.ntmps251
    go_wp2
    go_ret
    exact ⟨rfl, rfl⟩
theorem infoPg : (Tryz.prog.info? 280).map (·.size) = some 20 := by kernel_rfl
theorem infoEs : (Tryz.prog.info? 278).map (·.size) = some 16 := by kernel_rfl
theorem infoEn : (Tryz.prog.info? 37).map (·.size) = some 4 := by kernel_rfl
theorem run_index_ents {E : List Ent} (hE : E.length = 4) {k : Nat} (hk : k < 4) (w : World) :
    (Instr.index 278 (.agg (E.flatMap entC).toArray) (.int .i64 (k : Int))).run Tryz.prog w = .ok (.agg (entC (E.getD k Ent.none)).toArray) w := by
  have hu := Tryz.underlying37
  obtain ⟨i, hi, hs⟩ := Option.map_eq_some_iff.1 infoEn
  have hz : (Array.extract (E.flatMap entC).toArray (k * 4) (k * 4 + 4)) = (entC (E.getD k Ent.none)).toArray := by
    apply Array.toList_inj.1
    rw [Array.toList_extract]
    simp only [List.extract]
    rw [show k * 4 + 4 - k * 4 = 4 by omega]
    exact ents_at (by omega)
  have hz2 := ents_at (E := E) (i := k) (by omega)
  simp [Instr.index, asIntOf, run_underlying Tryz.underlying278, sizeOf, typeInfo, hi, hs, part, isAgg, run_underlying hu, hk, hz2]
theorem infoIn1 : (Tryz.prog.info? 3).map (fun i => (i.zero, i.size, i.bytes)) = some (some (.int .i64 0), 1, 8) := by kernel_rfl
set_option maxRecDepth 100000 in
set_option maxHeartbeats 2000000 in
theorem tellP {w : World} (seq no of many : Nat) (E : List Ent) (hE : E.length = 4) :
    Calls Tryz.prog 307 #[.agg (pgC seq no of many E).toArray] w (TellPostC w 20 (natsI (pgN seq no of many E))) := by
  obtain ⟨i0, hi, hz0, hz1, hz2⟩ := info_parts infoIn1
  obtain ⟨L, hL⟩ : ∃ L, L = (pgC seq no of many E).toArray := ⟨_, rfl⟩
  have hg := heap_alloc_last w (.cells L 280) rfl
  have k0 : (w.alloc (.cells L 280)).cell? ⟨w.heap.size, 0, none⟩ = some (.int .i64 (seq : Int)) := (cell_of_block hg 0).trans (by rw [hL]; rfl)
  have k1 : (w.alloc (.cells L 280)).cell? ⟨w.heap.size, 1, none⟩ = some (.int .i64 (no : Int)) := (cell_of_block hg 1).trans (by rw [hL]; rfl)
  have k2 : (w.alloc (.cells L 280)).cell? ⟨w.heap.size, 2, none⟩ = some (.int .i64 (of : Int)) := (cell_of_block hg 2).trans (by rw [hL]; rfl)
  have k3 : (w.alloc (.cells L 280)).cell? ⟨w.heap.size, 3, none⟩ = some (.int .i64 (many : Int)) := (cell_of_block hg 3).trans (by rw [hL]; rfl)
  have hr : (w.alloc (.cells L 280)).rangeAt w.heap.size 4 (E.flatMap entC) := fun j v hv => by
    rw [cell_of_block hg, hL, List.getElem?_toArray, pgC, List.getElem?_append_right (by simp)]
    rw [← hv]; congr 1; simp
  have hsz : (Tryz.prog.info? 278).map (·.size) = some (E.flatMap entC).length := by rw [ents_len, hE]; exact infoEs
  have hix := fun (k : Nat) (hk : k < 4) (w : World) => run_index_ents hE hk w
  have HI := Lib.hid (And.intro hix hE)
  rw [← hL]
  have hR := World.rangeAt_alloc hr (.cells #[.int .i64 (seq : Int), .int .i64 (no : Int), .int .i64 (of : Int), .int .i64 (many : Int)] 3)
  have HL := Lib.hid hL
  clear hL hix hE hg hr
  go_enter Tryz.func307, Tryz.ntmps307
  go_wp2_with (first
    | refine wpList_load_mid rfl _ _ rfl _ _ rfl _ _ hR Tryz.underlying278 rfl hsz ?_
    | fail)
  have hrow : (w.alloc (.cells L 280)).alloc (.cells #[.int .i64 (seq : Int), .int .i64 (no : Int), .int .i64 (of : Int), .int .i64 (many : Int)] 3) = (w.alloc (.cells L 280)).alloc (.cells #[.int .i64 (seq : Int), .int .i64 (no : Int), .int .i64 (of : Int), .int .i64 (many : Int)] 3) := rfl
  have hown : ((w.alloc (.cells L 280)).alloc (.cells #[.int .i64 (seq : Int), .int .i64 (no : Int), .int .i64 (of : Int), .int .i64 (many : Int)] 3)).ownsRow w.heap.size 3 1 (.slice (some ⟨w.heap.size + 1, 0, none⟩) 4 4) 4 (ints (natsI ([seq, no, of, many] ++ (E.take 0).flatMap entN))) := by
    refine ⟨by simp [natsI], .inr ⟨w.heap.size + 1, 4, _, rfl, by omega, heap_alloc_last _ _ (by simp), by omega, by unfold maxLen; omega, by simp, by simp [natsI, ints]⟩⟩
  have hB : Below w.heap.size w ((w.alloc (.cells L 280)).alloc (.cells #[.int .i64 (seq : Int), .int .i64 (no : Int), .int .i64 (of : Int), .int .i64 (many : Int)] 3)) := ((Below.refl _ w).alloc (Nat.le_refl _) _).alloc (by simp) _
  generalize (w.alloc (.cells L 280)).alloc (.cells #[.int .i64 (seq : Int), .int .i64 (no : Int), .int .i64 (of : Int), .int .i64 (many : Int)] 3) = w2 at *
  have HO := Lib.hid (And.intro hown hB)
  clear hown hB hR hsz k0 k1 k2 k3 hrow
  go_loopw [3, 17] (fun s3 s17 wr => ∃ k : Nat, k ≤ 4 ∧ s17 = .int .i64 k ∧ wr.ownsRow w.heap.size 3 1 s3 (4 + 4 * k) (ints (natsI ([seq, no, of, many] ++ (E.take k).flatMap entN))) ∧ Below w.heap.size w wr) (fun _ s17 _ => 4 - (intOf s17).toNat)
  case atStart => exact ⟨0, by omega, rfl, HO.out.1, HO.out.2⟩
  case round =>
    obtain ⟨k, hk, rfl, hown, hb⟩ := hrel
    by_cases hlt : k < 4
    · have hEk := HI.out.1 k hlt
      have hts : Hid ((E.take (k + 1)).flatMap entN = (E.take k).flatMap entN ++ entN (E.getD k Ent.none)) := by
        show _ = _
        have hk2 : k < E.length := by have := HI.out.2; omega
        rw [List.take_succ_eq_append_getElem hk2, List.flatMap_append]
        simp [List.getD_eq_getElem?_getD, hk2]
      generalize E.getD k Ent.none = x at *
      obtain ⟨xb, xs, xd, xm⟩ := x
      have hXL : Hid ((entC ⟨xb, xs, xd, xm⟩).toArray = #[Value.int .i64 (xb : Int), .int .i64 (xs : Int), .bool xd, .int .i64 (xm : Int)]) := rfl
      rw [hXL.out] at hEk
      have b1 : (0 : Int) ≤ (k : Int) := by omega
      have b2 : (k : Int) < 4 := by omega
      have hO := Lib.hid (And.intro hown hb)
      have hg3 := heap_alloc_last wr (.cells #[Value.int .i64 (xb : Int), .int .i64 (xs : Int), .bool xd, .int .i64 (xm : Int)] 37) rfl
      have hown3 := hO.out.1.alloc (.cells #[Value.int .i64 (xb : Int), .int .i64 (xs : Int), .bool xd, .int .i64 (xm : Int)] 37)
      have hb3 := hO.out.2.alloc hO.out.2.size (.cells #[Value.int .i64 (xb : Int), .int .i64 (xs : Int), .bool xd, .int .i64 (xm : Int)] 37)
      have hnm : ¬ u3.ownBlock = some wr.heap.size := fun e => by have := (hO.out.1.lt _ e).2; omega
      clear hown hb
      go_wp2
      generalize wr.alloc (.cells #[Value.int .i64 (xb : Int), .int .i64 (xs : Int), .bool xd, .int .i64 (xm : Int)] 37) = w3 at *
      generalize wr.heap.size = m at *
      have k0 : w3.cell? ⟨m, 0, none⟩ = some (.int .i64 (xb : Int)) := cell_of_block hg3 0
      have k1 : w3.cell? ⟨m, 1, none⟩ = some (.int .i64 (xs : Int)) := cell_of_block hg3 1
      have k2 : w3.cell? ⟨m, 2, none⟩ = some (.bool xd) := cell_of_block hg3 2
      have k3 : w3.cell? ⟨m, 3, none⟩ = some (.int .i64 (xm : Int)) := cell_of_block hg3 3
      have hownA := (hown3.alloc (.cells #[Value.int .i64 (xb : Int), .int .i64 (xs : Int), .int .i64 (bitN xd : Int), .int .i64 (xm : Int)] 3)).drew
      have hbA : Below w.heap.size w (w3.alloc (.cells #[Value.int .i64 (xb : Int), .int .i64 (xs : Int), .int .i64 (bitN xd : Int), .int .i64 (xm : Int)] 3)).drew := below_drewN (hb3.alloc hb3.size _) 1
      have hgA : (w3.alloc (.cells #[Value.int .i64 (xb : Int), .int .i64 (xs : Int), .int .i64 (bitN xd : Int), .int .i64 (xm : Int)] 3)).drew.heap[w3.heap.size]? = _ := heap_alloc_last w3 (.cells #[Value.int .i64 (xb : Int), .int .i64 (xs : Int), .int .i64 (bitN xd : Int), .int .i64 (xm : Int)] 3) rfl
      obtain ⟨v', w1, hrun, ho1, hgr, -⟩ := run_append_own (P := Tryz.prog) (w := (w3.alloc (.cells #[Value.int .i64 (xb : Int), .int .i64 (xs : Int), .int .i64 (bitN xd : Int), .int .i64 (xm : Int)] 3)).drew) w.heap.size 87 87 3 i0 (.int .i64 0) 1 8 Tryz.underlying87 hi hz0 hz1 hz2 rfl (by decide) u3 (4 + 4 * k) _ hownA ⟨w3.heap.size, 0, none⟩ 4 4 [.int .i64 (xb : Int), .int .i64 (xs : Int), .int .i64 (bitN xd : Int), .int .i64 (xm : Int)] rfl
        (fun j u hj => by rw [Addr.add_lit, cell_of_block hgA]; simpa using hj) (by intro u hu; simp at hu; rcases hu with rfl | rfl | rfl | rfl <;> rfl) (by unfold maxLen; omega) (by omega) hbA.size
      have hb1 : Below w.heap.size w w1 := below_upd hbA (Upd.of_grown (S := fun j => w.heap.size ≤ j) hgr (fun g hg _ => (hownA.lt g hg).1)) (Nat.le_refl _) (fun k h => h)
      have hgu : Upd (fun j => u3.ownBlock = some j) _ w1 := Upd.of_grown (S := fun j => u3.ownBlock = some j) hgr (fun g hg _ => hg)
      have q0 := hgu.cellv (w := (w3.alloc (.cells #[Value.int .i64 (xb : Int), .int .i64 (xs : Int), .int .i64 (bitN xd : Int), .int .i64 (xm : Int)] 3)).drew) (cell_keep_alloc k0 _) hnm
      have q1 := hgu.cellv (w := (w3.alloc (.cells #[Value.int .i64 (xb : Int), .int .i64 (xs : Int), .int .i64 (bitN xd : Int), .int .i64 (xm : Int)] 3)).drew) (cell_keep_alloc k1 _) hnm
      have q2 := hgu.cellv (w := (w3.alloc (.cells #[Value.int .i64 (xb : Int), .int .i64 (xs : Int), .int .i64 (bitN xd : Int), .int .i64 (xm : Int)] 3)).drew) (cell_keep_alloc k2 _) hnm
      have q3 := hgu.cellv (w := (w3.alloc (.cells #[Value.int .i64 (xb : Int), .int .i64 (xs : Int), .int .i64 (bitN xd : Int), .int .i64 (xm : Int)] 3)).drew) (cell_keep_alloc k3 _) hnm
      have HF := Lib.hid (And.intro ho1 hb1)
      clear hownA hbA hgA ho1 hgr hb1 hown3 hb3 hg3 hEk hgu
      go_region_held3 (fun W => W.cell? ⟨m, 0, none⟩ = some (.int .i64 (xb : Int)) ∧ W.cell? ⟨m, 1, none⟩ = some (.int .i64 (xs : Int)) ∧ W.cell? ⟨m, 2, none⟩ = some (.bool xd) ∧ W.cell? ⟨m, 3, none⟩ = some (.int .i64 (xm : Int)))
        ((go_split_ands; (simp only [World.cell?_drew] at *); ((repeat' constructor) <;> first | assumption | (apply cell_keep_alloc; assumption) | exact trivial)))
        (first | (go_at_call 251; refine (bit_any _ _).mono ?_; rintro e w' ⟨rfl, rfl⟩) | (refine step_append_run rfl _ _ _ rfl rfl rfl hrun ?_))
      go_wp2
      go_roundw
      case rel =>
        refine ⟨k + 1, by omega, by go_num, ?_, HF.out.2⟩
        have := HF.out.1
        rw [hts.out, show 4 + 4 * (k + 1) = 4 + 4 * k + 4 by omega]
        simpa [ints, natsI, entN] using this
      case measure => simp [intOf]; omega
    · obtain rfl : k = 4 := by omega
      have HX := Lib.hid (And.intro hown hb)
      clear hown hb
      go_wp2
      go_ret
      obtain ⟨hown, hb⟩ := HX.out
      rw [List.take_of_length_le (by have := HI.out.2; omega)] at hown
      obtain ⟨hl, ⟨_, h0⟩ | ⟨g, cap, cur, rfl, -, hg, hn, hcm, hs, ht⟩⟩ := hown
      · omega
      · refine ⟨g, cap, rfl, hn, hcm, fun j v hv => ?_, hb⟩
        rw [cell_of_block hg, ← Array.getElem?_toList]
        have hv' : (cur.toList.take ((4 + 4 * 4) * 1))[j]? = some v := by rw [ht]; exact hv
        rw [List.getElem?_take] at hv'
        split at hv'
        · simpa using hv'
        · cases hv'
def bndR : List (Int × Int) := [(1, 1099511627776), (0, 1099511627776), (0, 1), (0, 4095), (0, 1023), (0, 1), (0, 4294967295)]
def mayR (xs : List Int) : Bool := withinB bndR xs && (decide (xs.getD 2 0 = 0) || (decide (xs.getD 4 0 = 0) && decide (xs.getD 5 0 = 0) && decide (xs.getD 6 0 = 0)))
theorem cellR {w : World} {g o : Nat} {xs : List Int} (hr : w.rangeAt g o (ints xs)) (i : Nat) (hi : i < xs.length) : w.cell? ⟨g, o + i, none⟩ = some (.int .i64 (xs.getD i 0)) := by
  rw [ints_range hr (i := i) hi]; simp [List.getD_eq_getElem?_getD, hi]
set_option maxRecDepth 100000 in
set_option maxHeartbeats 2000000 in
theorem mayR_any {w : World} {gl ol cl gt : Nat} {v : Value} (xs : List Int) (hxl : xs.length = 7) (_hcl : 7 ≤ cl) (_hcm : cl ≤ maxLen) (hv : w.cell? ⟨gt, 0, none⟩ = some v) (hB : Bnd w v bndR) (hx : w.rangeAt gl ol (ints xs)) :
    Calls Tryz.prog 252 #[.slice (some ⟨gl, ol, none⟩) 7 cl, .pointer (some ⟨gt, 0, none⟩)] w fun e w' => e = .returned (.bool (mayR xs)) ∧ Below w.heap.size w w' := by
  obtain ⟨g, h, cc, rfl, hc, hr⟩ := hB
  have HW := Lib.hid (within_any (cl := cl) bndR xs hc hr hx hxl (by show 7 ≤ 7; decide) (by decide))
  have HM : Hid (mayR xs = (withinB bndR xs && (decide (xs.getD 2 0 = 0) || (decide (xs.getD 4 0 = 0) && decide (xs.getD 5 0 = 0) && decide (xs.getD 6 0 = 0))))) := rfl
  have HC := Lib.hid (And.intro (cellR hx 2 (by omega)) (And.intro (cellR hx 4 (by omega)) (And.intro (cellR hx 5 (by omega)) (cellR hx 6 (by omega)))))
  generalize xs.getD 2 0 = x2 at HM HC
  generalize xs.getD 4 0 = x4 at HM HC
  generalize xs.getD 5 0 = x5 at HM HC
  generalize xs.getD 6 0 = x6 at HM HC
  clear hx hr hc hxl
  go_enter Tryz.func252, Tryz.ntmps252
  go_wp2_with fail
  refine HW.out.mono ?_
  rintro e w' ⟨rfl, hb⟩
  have hu := Upd.of_below (S := fun _ => False) hb
  have c2 := hu.cellv HC.out.1 (fun h => h)
  have c4 := hu.cellv HC.out.2.1 (fun h => h)
  have c5 := hu.cellv HC.out.2.2.1 (fun h => h)
  have c6 := hu.cellv HC.out.2.2.2 (fun h => h)
  have HB := Lib.hid hb
  clear hu hb
  generalize withinB bndR xs = wb at HM ⊢
  cases wb with
  | false =>
    clear c2 c4 c5 c6
    go_wp2
    go_ret
    exact ⟨by rw [HM.out]; rfl, HB.out⟩
  | true =>
    by_cases h2 : x2 = 0
    · subst h2
      clear c4 c5 c6
      go_wp2
      go_ret
      exact ⟨by rw [HM.out]; rfl, HB.out⟩
    · have q2 : (x2 == 0) = false := by simpa using h2
      have H2 := Lib.hid h2
      clear h2
      by_cases h4 : x4 = 0
      · subst h4
        by_cases h5 : x5 = 0
        · subst h5
          go_wp2
          go_ret
          refine ⟨?_, HB.out⟩
          rw [HM.out]
          simp [H2.out]
          by_cases h6 : x6 = 0 <;> simp [h6]
        · have q5 : (x5 == 0) = false := by simpa using h5
          have H5 := Lib.hid h5
          clear h5 c6
          go_wp2
          go_ret
          refine ⟨?_, HB.out⟩
          rw [HM.out]
          simp [H2.out, H5.out]
      · have q4 : (x4 == 0) = false := by simpa using h4
        have H4 := Lib.hid h4
        clear h4 c5 c6
        go_wp2
        go_ret
        refine ⟨?_, HB.out⟩
        rw [HM.out]
        simp [H2.out, H4.out]
theorem within_atR {B : List (Int × Int)} {xs : List Int} (h : withinB B xs = true) {i : Nat} (h1 : i < B.length) (h2 : i < xs.length) : B[i].1 ≤ xs[i] ∧ xs[i] ≤ B[i].2 := by
  have h := List.all_eq_true.1 h (B[i], xs[i]) (List.mem_iff_getElem.2 ⟨i, by simp; omega, by simp⟩)
  simpa [inB] using h
theorem mayR_fits {xs : List Int} (hx : xs.length = 7) (h : mayR xs = true) : (∀ x ∈ xs, 0 ≤ x) ∧ Fits (numL [6, 6, 1, 2, 2, 1, 4] xs) := by
  simp only [mayR, Bool.and_eq_true] at h
  obtain ⟨h1, -⟩ := h
  have a0 := within_atR h1 (i := 0) (by decide) (by omega)
  have a1 := within_atR h1 (i := 1) (by decide) (by omega)
  have a2 := within_atR h1 (i := 2) (by decide) (by omega)
  have a3 := within_atR h1 (i := 3) (by decide) (by omega)
  have a4 := within_atR h1 (i := 4) (by decide) (by omega)
  have a5 := within_atR h1 (i := 5) (by decide) (by omega)
  have a6 := within_atR h1 (i := 6) (by decide) (by omega)
  simp [bndR] at a0 a1 a2 a3 a4 a5 a6
  have hb : ∀ i (h1 : i < xs.length) (h2 : i < [6, 6, 1, 2, 2, 1, 4].length), 0 ≤ xs[i] ∧ xs[i] < 256 ^ [6, 6, 1, 2, 2, 1, 4][i] := by
    intro i hi hi2
    rcases i with _ | _ | _ | _ | _ | _ | _ | i
    all_goals first | (simp at hi2; omega) | (simp; omega)
  refine ⟨fun x hx' => ?_, numL_fits (by rw [hx]; rfl) (by decide) (by decide) hb⟩
  obtain ⟨i, hi, rfl⟩ := List.getElem_of_mem hx'
  exact (hb i hi (by rw [hx] at hi; exact hi)).1
set_option maxRecDepth 100000 in
set_option maxHeartbeats 2000000 in
theorem putR_yes {w : World} (k : Nat) (hk : k < 256) (l : List (Nat × Nat)) (hl : Fits l) (m : Nat) (hm : l.length = m) (hm2 : m ≤ 100) (gs cl : Nat) (ft fm : Nat) (ct cm : Array Value) (bv : Value) (_hbv : bv.oneCell' = true) (cs : List Value)
    (hcs : (Tryz.prog.info? 101).map (·.size) = some cs.length) (hs : w.rangeAt gs 0 (ints (sizesL l))) (hN : Nib w)
    (entT : ∀ args w, (callFunc ft args).run Tryz.prog w = .ok (.enter ft args) w) (entM : ∀ args w, (callFunc fm args).run Tryz.prog w = .ok (.enter fm args) w)
    (htell : ∀ W, Below w.heap.size w W → Calls Tryz.prog ft (#[.agg cs.toArray] ++ ct) W (TellPostC W m (numsL l)))
    (hmay : ∀ W gl c, m ≤ c → c ≤ maxLen → Below w.heap.size w W → W.rangeAt gl 0 (ints (numsL l)) → Calls Tryz.prog fm (#[.slice (some ⟨gl, 0, none⟩) m c] ++ cm) W fun e W' => e = .returned (.bool true) ∧ Below W.heap.size W W') :
    Calls Tryz.prog 326 #[.agg #[.int .i64 (k : Int), .slice (some ⟨gs, 0, none⟩) m cl, .func (.func ft) #[] ct, .func (.func fm) #[] cm, bv], .agg cs.toArray] w
      fun e w' => e = .returned (.tuple #[.agg (bkC (sectB k l)).toArray, .int .i64 0]) ∧ Below w.heap.size w w' := by
  have H := Lib.hid (And.intro hs (And.intro hN (And.intro htell (And.intro hmay (And.intro hk (And.intro hl hm))))))
  have HC := Lib.hid hcs
  clear hs hN htell hmay hk hl hm hcs
  have hr : ((w.alloc (.cells #[.int .i64 (k : Int), .slice (some ⟨gs, 0, none⟩) m cl, .func (.func ft) #[] ct, .func (.func fm) #[] cm, bv] 296)).alloc (.cells cs.toArray 101)).rangeAt (w.heap.size + 1) 0 cs := range_of_block (heap_alloc_last _ _ (by simp))
  go_enter Tryz.func326, Tryz.ntmps326
  go_wp2_with (first
    | (refine wpList_load_mid rfl _ _ rfl _ _ rfl _ _ (World.rangeAt_alloc hr _) Tryz.underlying101 rfl HC.out ?_)
    | fail)
  show Calls _ _ _ (((w.alloc (.cells #[.int .i64 (k : Int), .slice (some ⟨gs, 0, none⟩) m cl, .func (.func ft) #[] ct, .func (.func fm) #[] cm, bv] 296)).alloc (.cells cs.toArray 101)).alloc (.cells (bkC zB).toArray 54)) _
  obtain ⟨h1, h2, h3, h4, h5⟩ := three_new w (.cells #[.int .i64 (k : Int), .slice (some ⟨gs, 0, none⟩) m cl, .func (.func ft) #[] ct, .func (.func fm) #[] cm, bv] 296) (.cells cs.toArray 101) (.cells (bkC zB).toArray 54)
  clear hr
  generalize ((w.alloc (.cells #[.int .i64 (k : Int), .slice (some ⟨gs, 0, none⟩) m cl, .func (.func ft) #[] ct, .func (.func fm) #[] cm, bv] 296)).alloc (.cells cs.toArray 101)).alloc (.cells (bkC zB).toArray 54) = w3 at *
  refine (H.out.2.2.1 w3 (Upd.below h5)).mono ?_
  rintro e w4 ⟨gl, c4, rfl, hc4, hc5, hr4, hb4⟩
  have hu4 : Upd (fun _ => False) w3 w4 := Upd.of_below hb4
  have f1 := (hu4.block _ (lt_of_block h1) (fun h => h)).trans h1
  have f3 := (hu4.block _ (lt_of_block h3) (fun h => h)).trans h3
  have m3 : w4.cell? ⟨w.heap.size, 3, none⟩ = some (.func (.func fm) #[] cm) := cell_of_block f1 3
  have H4 := Lib.hid (And.intro hr4 (And.intro (h5.trans hu4) (And.intro f1 (And.intro f3 h4))))
  clear h1 h2 h3 h4 h5 hr4 hb4 hu4 f1 f3
  go_wp2_with fail
  refine (H.out.2.2.2.1 w4 gl c4 hc4 hc5 (Upd.below H4.out.2.1) H4.out.1).mono ?_
  rintro e w5 ⟨rfl, hb5⟩
  have hu5 : Upd (fun _ => False) w4 w5 := Upd.of_below hb5
  obtain ⟨r4, u4, f1, f3, z4⟩ := H4.out
  have r5 := hu5.range r4 (fun h => h)
  have g1 := (hu5.block _ (lt_of_block f1) (fun h => h)).trans f1
  have g3 := (hu5.block _ (lt_of_block f3) (fun h => h)).trans f3
  have m0 : w5.cell? ⟨w.heap.size, 0, none⟩ = some (.int .i64 (k : Int)) := cell_of_block g1 0
  have z5 : w.heap.size + 3 ≤ w5.heap.size := by have h1 := lt_of_block g3; have h2 := hu5.size; have h3 := u4.size; have h4 := lt_of_block f3; have h5 := z4; have h6 := H4.out.2.2.2.2; omega
  have H5 := Lib.hid (And.intro r5 (And.intro (u4.trans hu5) (And.intro g1 g3)))
  clear r4 u4 f1 f3 z4 r5 g1 g3 hu5 hb5 m3
  go_wp2_with fail
  generalize hM : w.heap.size = M at *
  have HM := Lib.hid hM
  clear hM
  refine wp_region_held_drew (S := fun W => W.cell? ⟨M, 0, none⟩ = some (.int .i64 (k : Int))) (by kernel_rfl) (by rw [World.cell?_drew]; exact m0) (fun hHeld => ?_)
  refine wpAnyH_take (i := 1) (v := ?_) rfl (by kernel_rfl) (by kernel_rfl) (by kernel_rfl) (fun _ _ _ h => h) (Or.inl ⟨by rfl, ?_⟩) hHeld ?_
  rotate_left
  · intro W hSw; (try dsimp only at hSw); (try go_split_ands); go_simp; (try with_reducible rfl)
  simp only [Act.put, List.setIfInBounds_toArray]
  refine wpAnyH_take (i := 2) (v := ?_) rfl (by kernel_rfl) (by kernel_rfl) (by kernel_rfl) (fun _ _ _ h => h) (Or.inl ⟨by rfl, ?_⟩) hHeld ?_
  rotate_left
  · intro W hSw; (try dsimp only at hSw); (try go_split_ands); go_simp; (try with_reducible rfl)
  simp only [Act.put]
  refine Wl.r 0 (fun K hK => ?_)
  go_simp
  refine (wwrite _).mono ?_
  rintro e w6 ⟨g, rfl, hW, hge, hB⟩
  have hge' : w5.heap.size ≤ g := hge
  refine hK.out _ _ ((Upd.of_below (S := fun _ => False) hB).cellv hHeld (fun h => h)) (fun hHeld2 => ?_)
  clear hK K
  refine Wl.r 3 (fun K hK => ?_)
  go_simp
  refine (wput hW k 1 (by decide) (by decide) (by have := H.out.2.2.2.2.1; omega) (by decide)).mono ?_
  rintro e w7 ⟨rfl, hW2, hU⟩
  refine hK.out _ _ (hU.cellv hHeld2 (by omega)) (fun hHeld3 => ?_)
  clear hK K
  refine Wl.r 4 (fun K hK => ?_)
  go_simp
  refine hK.out _ _ (hHeld3) (fun _ => ?_)
  clear hK K
  refine Wl.d ?_
  obtain ⟨r5, u5, g1, g3⟩ := H5.out
  obtain ⟨hs, hN, -, -, hk, hl, hm⟩ := H.out
  have u57 : Upd (fun j => j = g) w5 w7 := ((Upd.of_below (S := fun _ => False) (bundrew' hB)).mono (fun _ _ h => h.elim)).trans hU
  have glt : gl < w5.heap.size ∨ m = 0 := by
    rcases Nat.eq_zero_or_pos m with h | h
    · exact .inr h
    · exact .inl (World.block_lt_of_cell? w5 _ (r5 0 _ (numsL_get (by omega))))
  have nM : w.heap.size = M := HM.out
  have gslt : gs < w.heap.size ∨ m = 0 := by
    rcases Nat.eq_zero_or_pos m with h | h
    · exact .inr h
    · exact .inl (World.block_lt_of_cell? w _ (hs 0 _ (sizesL_get (by omega))))
  have ws5 := u5.size
  have m1 : w7.cell? ⟨M, 1, none⟩ = some (.slice (some ⟨gs, 0, none⟩) m cl) := u57.cellv (cell_of_block g1 1) (by omega)
  have g3' := (u57.block (M + 1 + 1) (lt_of_block g3) (by omega)).trans g3
  have hN7 : Nib w7 := ((hN.keep u5 (fun h => h)).keep u57 (by have := hN.lt; omega))
  have hlow : Below M w w7 := below_upd (by rw [← nM]; exact Upd.below u5) u57 (by rw [← nM]; exact Nat.le_refl _) (fun k e => by omega)
  have hr7 : ∀ i (hi : i < l.length) W, Upd (fun j => j = g) w7 W → W.cell? ⟨gl, 0 + i, none⟩ = some (.int .i64 (l[i].1 : Int)) := fun i hi W hW => hW.cellv (u57.cellv (r5 i _ (numsL_get hi)) (by omega)) (by omega)
  have hs7 : ∀ i (hi : i < l.length) W, Upd (fun j => j = g) w7 W → W.cell? ⟨gs, 0 + i, none⟩ = some (.int .i64 (l[i].2 : Int)) := fun i hi W hW => hW.cellv (u57.cellv ((u5.range hs (fun h => h)) i _ (sizesL_get hi)) (by omega)) (by omega)
  have H7 := Lib.hid (And.intro hr7 (And.intro hs7 (And.intro m1 (And.intro g3' (And.intro hN7 (And.intro hlow (And.intro hl (And.intro hm hW2))))))))
  have hgeM : M ≤ g := by omega
  have hgM : ¬ M = g := by omega
  have hgM2 : ¬ M + 1 + 1 = g := by omega
  have hMw := lt_of_block g3'
  rename_i hx
  clear hx hHeld hHeld2 hHeld3 hW hge hB hU hW2 hN hs hk hl hm r5 u5 g1 g3 u57 glt gslt nM ws5 m1 g3' hN7 hlow hr7 hs7 m0
  go_wp2
  go_loopw [26] (fun s26 wr => ∃ i : Nat, i ≤ m ∧ s26 = .int .i64 i ∧ WrAt wr g (lowB k 1 ++ encB (l.take i)) ∧ Upd (fun j => j = g) w7 wr) (fun s26 _ => m - (intOf s26).toNat)
  case atStart => exact ⟨0, Nat.zero_le _, rfl, by simpa [encB] using H7.out.2.2.2.2.2.2.2.2, Upd.refl _ _⟩
  case round =>
    obtain ⟨i, hi, rfl, hW, hu⟩ := hrel
    by_cases hlt : i < m
    · obtain ⟨hr7, hs7, m1, g3', hN7, hlow, hl, hm, -⟩ := H7.out
      have hil : i < l.length := by omega
      have x1 := hr7 i hil wr hu
      have x2 := hs7 i hil wr hu
      have x3 := hu.cellv m1 hgM
      rw [Nat.zero_add] at x1 x2
      have hfit := hl.1 l[i] (List.getElem_mem hil)
      have hsz := sizes_take l hil
      have hts : Hid (encB (l.take (i + 1)) = encB (l.take i) ++ lowB l[i].1 l[i].2) := by show _ = _; rw [List.take_succ_eq_append_getElem hil, encB_snoc]
      have hlen : (lowB k 1 ++ encB (l.take i)).length + l[i].2 ≤ 60 := by
        rw [List.length_append, lowB_len, encB_len]; have := hl.2; omega
      have b1 : (0 : Int) ≤ (i : Int) ∧ (i : Int) < (m : Int) := by omega
      have HX := Lib.hid (And.intro hW (And.intro hu (And.intro hfit hlen)))
      clear hr7 hs7 m1 g3' hN7 hlow hl hm hW hu hfit hsz hlen
      obtain ⟨b1, b2⟩ := b1
      generalize l[i] = p at *
      go_wp2_with fail
      refine (wput HX.out.1 p.1 p.2 HX.out.2.2.1.2.1 HX.out.2.2.1.2.2 HX.out.2.2.1.1 HX.out.2.2.2).mono ?_
      rintro e w8 ⟨rfl, hW8, hU8⟩
      have HZ := Lib.hid (And.intro hW8 hU8)
      clear hW8 hU8
      go_wp2
      go_roundw
      case rel => exact ⟨i + 1, by omega, by go_num, by rw [hts.out, ← List.append_assoc]; exact HZ.out.1, HX.out.2.1.trans HZ.out.2⟩
      case measure => simp [intOf]; omega
    · obtain rfl : i = m := by omega
      obtain ⟨hr7, hs7, m1, g3', hN7, hlow, hl, hm, -⟩ := H7.out
      have hN8 := hN7.keep hu (by have := (H.out.2.1).lt; have := HM.out; omega)
      rw [List.take_of_length_le (by omega)] at hW
      have hg3 := (hu.block (M + 1 + 1) (lt_of_block g3') hgM2).trans g3'
      have hlen : Hid ((sectB k l).length = 64) := sectB_len hl.2
      have HX := Lib.hid (And.intro hW (And.intro hN8 (And.intro hu (And.intro hg3 (And.intro hlow hl)))))
      have hus := hu.size
      clear hr7 hs7 m1 g3' hN7 hlow hl hm hW hu hN8 hg3
      go_wp2_with fail
      refine (wseal HX.out.1 HX.out.2.1).mono ?_
      rintro e w9 ⟨rfl, hb9⟩
      have hg9 := (hb9.block (M + 1 + 1) (lt_of_block HX.out.2.2.2.1)).trans HX.out.2.2.2.1
      have hth : w9.there (M + 1 + 1) 0 64 := fun j hj => by
        rw [cell_of_block hg9, frozen_of_block hg9]
        exact ⟨by rw [Nat.zero_add, Array.getElem?_eq_getElem (by rw [bkC_size _ zB_len]; exact hj)]; rfl, rfl⟩
      have hbl : Hid (Below M w w9) := (below_upd HX.out.2.2.2.2.1 HX.out.2.2.1 (by have := HM.out; omega) (fun k e => by omega)).trans (hb9.mono (by omega))
      have hsl := hlen.out
      have hst : w9.there (M + 1 + 1) 0 (bkC (sectB k l)).toArray.size := by rw [bkC_size _ hsl]; exact hth
      have hst2 : w9.there (M + 1 + 1) 0 (bkC (sectB k l)).length := by rw [bkC_len, hsl]; exact hth
      have hsz2 : (Tryz.prog.info? 54).map (·.size) = some (bkC (sectB k l)).toArray.size := by rw [bkC_size _ hsl]; exact sizeBk'
      have HST := Lib.hid (And.intro hst (And.intro hsz2 (And.intro hst2 hsl)))
      clear hst hsz2 hst2 hsl hg9 hth hb9 hlen
      rw [show sealB (padB (lowB k 1 ++ encB l)) = sectB k l from rfl]
      generalize hsb : sectB k l = sb at *
      have Hsb := Lib.hid hsb
      clear hsb
      go_wp2_with (first
        | (refine wpList_store_mid rfl _ _ _ rfl _ _ (bkC sb).toArray rfl rfl HST.out.1 HST.out.2.1 (all_oneCell_toArray (bkC_one _)) ?_)
        | fail)
      refine bodyPost_ret (results_mid2 rfl _ _ (M + 1 + 1) 0 (bkC sb) _ rfl (World.rangeAt_setCells_same _ _ _ _ HST.out.2.2.1) Tryz.underlying54 rfl (sizeBk _ HST.out.2.2.2)) rfl
          ⟨by rw [Hsb.out]; rfl, ?_⟩
      rw [HM.out]
      exact below_upd hbl.out (upd_row w9 (M + 1 + 1) 0 _) (by have := HM.out; omega) (fun k e => by omega)
set_option maxRecDepth 100000 in
set_option maxHeartbeats 2000000 in
theorem putR_no {w : World} (k : Nat) (xs : List Int) (m : Nat) (gs cl : Nat) (ft fm : Nat) (ct cm : Array Value) (bv : Value) (_hbv : bv.oneCell' = true) (cs : List Value)
    (hcs : (Tryz.prog.info? 101).map (·.size) = some cs.length) 
    (entT : ∀ args w, (callFunc ft args).run Tryz.prog w = .ok (.enter ft args) w) (entM : ∀ args w, (callFunc fm args).run Tryz.prog w = .ok (.enter fm args) w)
    (htell : ∀ W, Below w.heap.size w W → Calls Tryz.prog ft (#[.agg cs.toArray] ++ ct) W (TellPostC W m xs))
    (hmay : ∀ W gl c, m ≤ c → c ≤ maxLen → Below w.heap.size w W → W.rangeAt gl 0 (ints xs) → Calls Tryz.prog fm (#[.slice (some ⟨gl, 0, none⟩) m c] ++ cm) W fun e W' => e = .returned (.bool false) ∧ Below W.heap.size W W') :
    Calls Tryz.prog 326 #[.agg #[.int .i64 (k : Int), .slice (some ⟨gs, 0, none⟩) m cl, .func (.func ft) #[] ct, .func (.func fm) #[] cm, bv], .agg cs.toArray] w
      fun e w' => e = .returned (.tuple #[bkV zB, .int .i64 10]) ∧ Below w.heap.size w w' := by
  have H := Lib.hid (And.intro htell hmay)
  have HC := Lib.hid hcs
  clear htell hmay hcs
  have hr : ((w.alloc (.cells #[.int .i64 (k : Int), .slice (some ⟨gs, 0, none⟩) m cl, .func (.func ft) #[] ct, .func (.func fm) #[] cm, bv] 296)).alloc (.cells cs.toArray 101)).rangeAt (w.heap.size + 1) 0 cs := range_of_block (heap_alloc_last _ _ (by simp))
  go_enter Tryz.func326, Tryz.ntmps326
  go_wp2_with (first
    | (refine wpList_load_mid rfl _ _ rfl _ _ rfl _ _ (World.rangeAt_alloc hr _) Tryz.underlying101 rfl HC.out ?_)
    | fail)
  show Calls _ _ _ (((w.alloc (.cells #[.int .i64 (k : Int), .slice (some ⟨gs, 0, none⟩) m cl, .func (.func ft) #[] ct, .func (.func fm) #[] cm, bv] 296)).alloc (.cells cs.toArray 101)).alloc (.cells (bkC zB).toArray 54)) _
  obtain ⟨h1, h2, h3, h4, h5⟩ := three_new w (.cells #[.int .i64 (k : Int), .slice (some ⟨gs, 0, none⟩) m cl, .func (.func ft) #[] ct, .func (.func fm) #[] cm, bv] 296) (.cells cs.toArray 101) (.cells (bkC zB).toArray 54)
  clear hr
  generalize ((w.alloc (.cells #[.int .i64 (k : Int), .slice (some ⟨gs, 0, none⟩) m cl, .func (.func ft) #[] ct, .func (.func fm) #[] cm, bv] 296)).alloc (.cells cs.toArray 101)).alloc (.cells (bkC zB).toArray 54) = w3 at *
  refine (H.out.1 w3 (Upd.below h5)).mono ?_
  rintro e w4 ⟨gl, c4, rfl, hc4, hc5, hr4, hb4⟩
  have hu4 : Upd (fun _ => False) w3 w4 := Upd.of_below hb4
  have f1 := (hu4.block _ (lt_of_block h1) (fun h => h)).trans h1
  have f3 := (hu4.block _ (lt_of_block h3) (fun h => h)).trans h3
  have m3 : w4.cell? ⟨w.heap.size, 3, none⟩ = some (.func (.func fm) #[] cm) := cell_of_block f1 3
  have H4 := Lib.hid (And.intro hr4 (And.intro (h5.trans hu4) (And.intro f1 (And.intro f3 h4))))
  clear h1 h2 h3 h4 h5 hr4 hb4 hu4 f1 f3
  go_wp2_with fail
  refine (H.out.2 w4 gl c4 hc4 hc5 (Upd.below H4.out.2.1) H4.out.1).mono ?_
  rintro e w5 ⟨rfl, hb5⟩
  have hu5 : Upd (fun _ => False) w4 w5 := Upd.of_below hb5
  obtain ⟨r4, u4, f1, f3, z4⟩ := H4.out
  have g3 := (hu5.block _ (lt_of_block f3) (fun h => h)).trans f3
  have hth : w5.there (w.heap.size + 1 + 1) 0 64 := fun j hj => by
    rw [cell_of_block g3, frozen_of_block g3]
    exact ⟨by rw [Nat.zero_add, Array.getElem?_eq_getElem (by rw [bkC_size _ zB_len]; exact hj)]; rfl, rfl⟩
  obtain ⟨z, Hz⟩ : ∃ z : Bk, Hid (z = zB) := ⟨zB, rfl⟩
  have hst : w5.there (w.heap.size + 1 + 1) 0 (bkC z).toArray.size := by rw [Hz.out, bkC_size _ zB_len]; exact hth
  have hst2 : w5.there (w.heap.size + 1 + 1) 0 (bkC z).length := by rw [Hz.out, bkC_len, zB_len]; exact hth
  have hsz2 : (Tryz.prog.info? 54).map (·.size) = some (bkC z).toArray.size := by rw [Hz.out, bkC_size _ zB_len]; exact sizeBk'
  have HST := Lib.hid (And.intro hst (And.intro hsz2 hst2))
  have HU := Lib.hid (u4.trans hu5)
  clear r4 u4 f1 f3 z4 hst hst2 hsz2 hth hu5 hb5 g3 m3
  go_wp2_with (first
      | (refine wpList_store_mid rfl _ _ _ rfl _ _ (bkC z).toArray rfl (by rw [Hz.out]; rfl) HST.out.1 HST.out.2.1 (all_oneCell_toArray (bkC_one _)) ?_)
      | fail)
  exact bodyPost_ret (results_mid2 rfl _ _ (w.heap.size + 1 + 1) 0 (bkC z) _ rfl (World.rangeAt_setCells_same _ _ _ _ HST.out.2.2) Tryz.underlying54 rfl (by rw [Hz.out]; exact sizeBk zB zB_len)) rfl
    ⟨by rw [Hz.out]; rfl, below_upd (Upd.below HU.out) (upd_row w5 (w.heap.size + 1 + 1) 0 _) (Nat.le_refl _) (fun k e => by omega)⟩
def szR : List Nat := [6, 6, 1, 2, 2, 1, 4]
def formRV (gs gt : Nat) : Value := .agg #[.int .i64 2, .slice (some ⟨gs, 0, none⟩) 7 7, .func (.func 250) #[] #[], .func (.func 252) #[] #[.pointer (some ⟨gt, 0, none⟩)], .func (.func 253) #[] #[]]
def FormR (w : World) (gs gt : Nat) : Prop := w.rangeAt gs 0 (ints (natsI szR)) ∧ ∃ v, w.cell? ⟨gt, 0, none⟩ = some v ∧ Bnd w v bndR
theorem infoFoR : (Tryz.prog.info? 296).map (·.size) = some 5 := by kernel_rfl
theorem infoThR : (Tryz.prog.info? 101).map (·.size) = some 7 := by kernel_rfl
set_option maxRecDepth 100000 in
set_option maxHeartbeats 1000000 in
theorem records_any (w : World) : Calls Tryz.prog 178 #[] w fun e w' => ∃ gs gt, e = .returned (formRV gs gt) ∧ FormR w' gs gt ∧ Below w.heap.size w w' := by
  have hmf : ∀ (fn : Fn) (first cap : Array Value) (w : World), (Instr.makeFunc fn first cap).run Tryz.prog w = .ok (.func fn first cap) w := fun _ _ _ _ => rfl
  go_enter Tryz.func178, Tryz.ntmps178
  go_wp2_with fail
  refine (within_ok).mono ?_
  rintro e w1 ⟨rfl, rfl⟩
  go_wp2
  obtain ⟨h1, h2, h3, h4, h5, h6, h7⟩ := five_new w (.cells #[.int .i64 2, .slice (some ⟨w.heap.size + 1 + 1 + 1 + 1, 0, none⟩) 7 7, .func (.func 250) #[] #[], .func (.func 252) #[] #[.pointer (some ⟨w.heap.size + 1 + 1 + 1, 0, none⟩)], .func (.func 253) #[] #[]] 296)
    (.cells (bndC bndR).toArray 219) (.cells #[.slice (some ⟨w.heap.size + 1, 0, none⟩) 7 7] 321) (.cells #[.func (.func 196) #[] #[.pointer (some ⟨w.heap.size + 1 + 1, 0, none⟩)]] 134) (.cells (ints (natsI szR)).toArray 3)
  refine bodyPost_ret (results_mid1 rfl _ _ w.heap.size 0 [.int .i64 2, .slice (some ⟨w.heap.size + 1 + 1 + 1 + 1, 0, none⟩) 7 7, .func (.func 250) #[] #[], .func (.func 252) #[] #[.pointer (some ⟨w.heap.size + 1 + 1 + 1, 0, none⟩)], .func (.func 253) #[] #[]] _ rfl (range_of_block h1) Tryz.underlying296 rfl infoFoR) rfl
    ⟨w.heap.size + 1 + 1 + 1 + 1, w.heap.size + 1 + 1 + 1, rfl, ⟨range_of_block h5, _, cell_of_block h4 0, w.heap.size + 1 + 1, w.heap.size + 1, 7, rfl, cell_of_block h3 0, range_of_block h2⟩, Upd.below h7⟩
def sectR (xs : List Int) : Bk := sectB 2 (numL szR xs)
theorem sectR_len {xs : List Int} (h : xs.length = 7) : (sectR xs).length = 64 := sectB_len (by rw [numL_sizes (by rw [h]; rfl)]; decide)
def PutRPost (w : World) (xs : List Int) (e : Ending) (w' : World) : Prop :=
  ((mayR xs = true ∧ e = .returned (.tuple #[.agg (bkC (sectR xs)).toArray, .int .i64 0])) ∨ (mayR xs = false ∧ e = .returned (.tuple #[.agg (bkC zB).toArray, .int .i64 10]))) ∧ Below w.heap.size w w'
set_option maxRecDepth 100000 in
theorem putR_any {w : World} {gs gt : Nat} (hF : FormR w gs gt) (hN : Nib w) (cs : List Value) (hcs : cs.length = 7) (xs : List Int) (hxl : xs.length = 7)
    (htell : ∀ W, Calls Tryz.prog 250 #[.agg cs.toArray] W (TellPostC W 7 xs)) :
    Calls Tryz.prog 326 #[formRV gs gt, .agg cs.toArray] w (PutRPost w xs) := by
  obtain ⟨hs, v, hv, hB⟩ := hF
  have hcz : (Tryz.prog.info? 101).map (·.size) = some cs.length := by rw [hcs]; exact infoThR
  have htell' : ∀ W, Below w.heap.size w W → Calls Tryz.prog 250 (#[.agg cs.toArray] ++ #[]) W (TellPostC W 7 xs) := fun W _ => htell W
  have hmay : ∀ W gl cc, 7 ≤ cc → cc ≤ maxLen → Below w.heap.size w W → W.rangeAt gl 0 (ints xs) → Calls Tryz.prog 252 (#[.slice (some ⟨gl, 0, none⟩) 7 cc] ++ #[.pointer (some ⟨gt, 0, none⟩)]) W fun e W' => e = .returned (.bool (mayR xs)) ∧ Below W.heap.size W W' := fun W gl cc hc hc2 hW hr =>
    mayR_any xs hxl hc hc2 ((Upd.of_below (S := fun _ => False) hW).cellv hv (fun h => h)) (hB.below hW) hr
  cases hm : mayR xs with
  | false =>
    rw [hm] at hmay
    exact (putR_no (w := w) 2 xs 7 gs 7 250 252 #[] #[.pointer (some ⟨gt, 0, none⟩)] (.func (.func 253) #[] #[]) rfl cs hcz (fun _ _ => rfl) (fun _ _ => rfl) htell' hmay).mono
      (fun e w' ⟨he, hb⟩ => ⟨.inr ⟨hm, he⟩, hb⟩)
  | true =>
    rw [hm] at hmay
    obtain ⟨h0, hfit⟩ := mayR_fits hxl hm
    have e : numsL (numL szR xs) = xs := numL_nums (by rw [hxl]; rfl) h0
    rw [← e] at htell' hmay
    exact (putR_yes (w := w) 2 (by decide) (numL szR xs) hfit 7 (by rw [numL_len (by rw [hxl]; rfl)]; rfl) (by decide) gs 7 250 252 #[] #[.pointer (some ⟨gt, 0, none⟩)] (.func (.func 253) #[] #[]) rfl cs hcz (by rw [numL_szs (by rw [hxl]; rfl)]; exact hs) hN (fun _ _ => rfl) (fun _ _ => rfl) htell' hmay).mono
      (fun e w' ⟨he, hb⟩ => ⟨.inl ⟨hm, he⟩, hb⟩)
set_option maxRecDepth 100000 in
set_option maxHeartbeats 1000000 in
theorem PutR_any {w : World} (hN : Nib w) (cs : List Value) (hcs : cs.length = 7) (xs : List Int) (hxl : xs.length = 7)
    (htell : ∀ W, Calls Tryz.prog 250 #[.agg cs.toArray] W (TellPostC W 7 xs)) :
    Calls Tryz.prog 304 #[.agg cs.toArray] w (PutRPost w xs) := by
  have HN := Lib.hid (And.intro hN htell)
  have hcz : (Tryz.prog.info? 101).map (·.size) = some cs.length := by rw [hcs]; exact infoThR
  have HC := Lib.hid hcz
  have hr : ((w.alloc (.cells cs.toArray 101)).alloc (.cells (bkC zB).toArray 54)).rangeAt w.heap.size 0 cs := World.rangeAt_alloc (range_of_block (heap_alloc_last w _ rfl)) _
  clear hN htell hcz
  go_enter Tryz.func304, Tryz.ntmps304
  go_wp2_with fail
  change Code.wp _ _ _ _ ((w.alloc (.cells cs.toArray 101)).alloc (.cells (bkC zB).toArray 54))
  have hg : ((w.alloc (.cells cs.toArray 101)).alloc (.cells (bkC zB).toArray 54)).heap[w.heap.size + 1]? = some (.cells (bkC zB).toArray 54) := heap_alloc_last _ _ (by simp)
  have hu : Upd (fun _ => False) w ((w.alloc (.cells cs.toArray 101)).alloc (.cells (bkC zB).toArray 54)) := ((Upd.refl _ w).alloc _).alloc _
  generalize (w.alloc (.cells cs.toArray 101)).alloc (.cells (bkC zB).toArray 54) = w2 at *
  have hb2 : Below w.heap.size w w2 := Upd.below hu
  refine wp_region_held_drew (S := fun W => W.rangeAt w.heap.size 0 cs) (by kernel_rfl) (by rw [World.rangeAt_drew]; exact hr) (fun hHeld => ?_)
  refine Wl.l 1 (fun w h => h) Tryz.underlying101 HC.out hHeld ?_
  refine Wl.r 0 (fun K hK => ?_)
  go_simp
  refine (records_any _).mono ?_
  rintro e w3 ⟨gs, gt, rfl, hF, hb3⟩
  have hb3' : Below w2.heap.size w2 w3 := bundrew' hb3
  refine hK.out _ _ (Below.range hb3 hHeld) (fun hHeld2 => ?_)
  clear hK K
  refine Wl.r 2 (fun K hK => ?_)
  go_simp
  refine (putR_any hF ((HN.out.1.keep hu (fun h => h)).below hb3') cs hcs xs hxl HN.out.2).mono ?_
  rintro e w4 ⟨he, hb4⟩
  have hb4' : Below w2.heap.size w2 w4 := hb3'.trans (hb4.mono hb3'.size)
  have hg4 := (hb4'.block _ (lt_of_block hg)).trans hg
  have hth : w4.there (w.heap.size + 1) 0 64 := fun j hj => by
    rw [cell_of_block hg4, frozen_of_block hg4]
    exact ⟨by rw [Nat.zero_add, Array.getElem?_eq_getElem (by rw [bkC_size _ zB_len]; exact hj)]; rfl, rfl⟩
  obtain ⟨y, cd, hy, hres, rfl⟩ : ∃ (y : Bk) (cd : Int), y.length = 64 ∧ ((mayR xs = true ∧ y = sectR xs ∧ cd = 0) ∨ (mayR xs = false ∧ y = zB ∧ cd = 10)) ∧ e = .returned (.tuple #[.agg (bkC y).toArray, .int .i64 cd]) := by
    rcases he with ⟨hm, rfl⟩ | ⟨hm, rfl⟩
    · exact ⟨_, 0, sectR_len hxl, .inl ⟨hm, rfl, rfl⟩, rfl⟩
    · exact ⟨_, 10, zB_len, .inr ⟨hm, rfl, rfl⟩, rfl⟩
  have HR := Lib.hid (And.intro hy hres)
  clear he hy hres
  have hst : w4.there (w.heap.size + 1) 0 (bkC y).toArray.size := by rw [bkC_size _ HR.out.1]; exact hth
  have hst2 : w4.there (w.heap.size + 1) 0 (bkC y).length := by rw [bkC_len, HR.out.1]; exact hth
  have hsz2 : (Tryz.prog.info? 54).map (·.size) = some (bkC y).toArray.size := by rw [bkC_size _ HR.out.1]; exact sizeBk'
  refine hK.out _ _ (Below.range hb4 hHeld2) (fun hHeld3 => ?_)
  clear hK K
  refine Wl.i [3, 4] ?_; iterate 2 refine Wl.t hHeld3 ?_
  refine Wl.o ?_
  have hU5 : Below w.heap.size w (w4.setCells (w.heap.size + 1) 0 (bkC y)) := below_upd (hb2.trans (hb4'.mono hu.size)) (upd_row w4 (w.heap.size + 1) 0 _) (Nat.le_refl _) (fun k e => by omega)
  refine Wl.r 5 (fun K hK => ?_)
  rw [if_pos (by rfl)]
  refine wp_store_mid _ _ _ rfl _ _ (List.toArray _) rfl rfl (hst) (hsz2) (all_oneCell_toArray (bkC_one _)) ?_
  simp only [Act.put, List.setIfInBounds_toArray]
  refine hK.out _ _ ((upd_row w4 (w.heap.size + 1) 0 (bkC y)).range hHeld3 (by omega)) (fun hHeld4 => ?_)
  clear hK K
  refine Wl.r 6 (fun K hK => ?_)
  go_simp
  refine hK.out _ _ (hHeld4) (fun _ => ?_)
  clear hK K
  refine Wl.d ?_
  have HE := Lib.hid (And.intro hU5 hst2)
  clear hst hst2 hsz2 hU5 hth hg4 hb4 hb4' hb3 hb3' hHeld hHeld2 hHeld3 hHeld4 hF hr hg hu hb2
  go_wp2
  refine bodyPost_ret (results_mid2 rfl _ _ (w.heap.size + 1) 0 (bkC y) _ rfl (World.rangeAt_setCells_same _ _ _ _ HE.out.2) Tryz.underlying54 rfl (sizeBk _ HR.out.1)) rfl ⟨?_, HE.out.1⟩
  rcases HR.out.2 with ⟨hm, rfl, rfl⟩ | ⟨hm, rfl, rfl⟩
  · exact .inl ⟨hm, rfl⟩
  · exact .inr ⟨hm, rfl⟩
abbrev recC (a0 a1 a2 a3 a4 : Int) (d : Bool) (a6 : Int) : List Value := [.int .i64 a0, .int .i64 a1, .int .i64 a2, .int .i64 a3, .int .i64 a4, .bool d, .int .i64 a6]
abbrev recX (a0 a1 a2 a3 a4 : Int) (d : Bool) (a6 : Int) : List Int := [a0, a1, a2, a3, a4, (bitN d : Int), a6]
set_option maxRecDepth 100000 in
set_option maxHeartbeats 2000000 in
theorem tellR (a0 a1 a2 a3 a4 : Int) (d : Bool) (a6 : Int) (w : World) : Calls Tryz.prog 250 #[.agg (recC a0 a1 a2 a3 a4 d a6).toArray] w (TellPostC w 7 (recX a0 a1 a2 a3 a4 d a6)) := by
  obtain ⟨L, hL⟩ : ∃ L, L = (recC a0 a1 a2 a3 a4 d a6).toArray := ⟨_, rfl⟩
  have hg := heap_alloc_last w (.cells L 101) rfl
  have c0 : (w.alloc (.cells L 101)).cell? ⟨w.heap.size, 0, none⟩ = some (.int .i64 a0) := (cell_of_block hg 0).trans (by rw [hL]; rfl)
  have c1 : (w.alloc (.cells L 101)).cell? ⟨w.heap.size, 1, none⟩ = some (.int .i64 a1) := (cell_of_block hg 1).trans (by rw [hL]; rfl)
  have c2 : (w.alloc (.cells L 101)).cell? ⟨w.heap.size, 2, none⟩ = some (.int .i64 a2) := (cell_of_block hg 2).trans (by rw [hL]; rfl)
  have c3 : (w.alloc (.cells L 101)).cell? ⟨w.heap.size, 3, none⟩ = some (.int .i64 a3) := (cell_of_block hg 3).trans (by rw [hL]; rfl)
  have c4 : (w.alloc (.cells L 101)).cell? ⟨w.heap.size, 4, none⟩ = some (.int .i64 a4) := (cell_of_block hg 4).trans (by rw [hL]; rfl)
  have c5 : (w.alloc (.cells L 101)).cell? ⟨w.heap.size, 5, none⟩ = some (.bool d) := (cell_of_block hg 5).trans (by rw [hL]; rfl)
  have c6 : (w.alloc (.cells L 101)).cell? ⟨w.heap.size, 6, none⟩ = some (.int .i64 a6) := (cell_of_block hg 6).trans (by rw [hL]; rfl)
  rw [← hL]
  have hb : Below w.heap.size w (w.alloc (.cells L 101)) := (Below.refl _ _).alloc (Nat.le_refl _) _
  have HB := Lib.hid hb
  clear hg hL hb
  go_enter Tryz.func250, Tryz.ntmps250
  go_wp2
  generalize w.alloc (.cells L 101) = w1 at *
  obtain ⟨m, hm⟩ : ∃ m, m = w.heap.size := ⟨_, rfl⟩
  rw [← hm] at c0 c1 c2 c3 c4 c5 c6 ⊢
  have HM := Lib.hid hm
  clear hm
  refine wp_region_held_drew (S := fun W => W.cell? ⟨m, 0, none⟩ = some (.int .i64 a0) ∧ W.cell? ⟨m, 1, none⟩ = some (.int .i64 a1) ∧ W.cell? ⟨m, 2, none⟩ = some (.int .i64 a2) ∧ W.cell? ⟨m, 3, none⟩ = some (.int .i64 a3) ∧ W.cell? ⟨m, 4, none⟩ = some (.int .i64 a4) ∧ W.cell? ⟨m, 5, none⟩ = some (.bool d) ∧ W.cell? ⟨m, 6, none⟩ = some (.int .i64 a6)) (by kernel_rfl) (by (simp only [World.cell?_drew]); exact ⟨c0, c1, c2, c3, c4, c5, c6⟩) (fun hHeld => ?_)
  refine Wl.i [0, 1, 2, 3, 4, 5, 6, 7, 8, 9, 10, 11, 13, 14] ?_; iterate 14 refine Wl.t hHeld ?_
  refine Wl.o ?_
  refine Wl.r 12 (fun K hK => ?_)
  go_simp
  refine (bit_any d _).mono ?_
  rintro e w3 ⟨rfl, h3⟩
  rw [← h3]
  clear h3 w3
  refine hK.out _ _ (hHeld) (fun hH1 => ?_)
  clear hK K
  refine Wl.r 15 (fun K hK => ?_)
  go_simp
  refine hK.out _ _ (⟨cell_keep_alloc hH1.1 _, cell_keep_alloc hH1.2.1 _, cell_keep_alloc hH1.2.2.1 _, cell_keep_alloc hH1.2.2.2.1 _, cell_keep_alloc hH1.2.2.2.2.1 _, cell_keep_alloc hH1.2.2.2.2.2.1 _, cell_keep_alloc hH1.2.2.2.2.2.2 _⟩) (fun hH2 => ?_)
  clear hK K
  refine Wl.r 16 (fun K hK => ?_)
  go_simp
  refine hK.out _ _ (hH2) (fun hH3 => ?_)
  clear hK K
  refine Wl.d ?_
  clear hHeld hH1 hH2
  go_wp2
  go_ret
  refine ⟨w1.heap.size, 7, rfl, Nat.le_refl _, by unfold maxLen; omega, range_of_block (heap_alloc_last w1.drew _ rfl), ?_⟩
  exact (below_drewN HB.out 1).alloc HB.out.size _
end Go.Proofs.YtfhfbpmlnjdfoaaGreatDoor
