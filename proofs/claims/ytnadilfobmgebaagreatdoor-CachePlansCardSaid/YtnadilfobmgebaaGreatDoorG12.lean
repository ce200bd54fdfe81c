/- An intent as a sector: PutIntent. The intent that a sector is. Numbers with their sizes; what a thing's numbers are, with the row's capacity. Pages: their numbers. Records: their numbers, which may be. -/
import Derived.Test.YtnadilfobmgebaaGreatDoorG11
import Derived.Laws.Cover3
import Derived.Test.YtnadilfobmgebaaGreatDoorG06
namespace Go.Proofs.YtnadilfobmgebaaGreatDoor
open Go Go.RowKit
def intentL (a b c d : Nat) : List (Nat × Nat) := [(a, 6), (b, 6), (c, 2), (d, 2)]
def intentB (a b c d : Nat) : Bk := sectB 4 (intentL a b c d)
theorem mayI_iff {a b c d : Int} : mayI [a, b, c, d] = true ↔ ((0 ≤ a ∧ a ≤ 1099511627776) ∧ (0 ≤ b ∧ b ≤ 1099511627776)) ∧ 0 ≤ c ∧ 1 ≤ d ∧ d ≤ 4096 ∧ c ≤ 4096 - d := by
  simp [mayI, withinB, bndI, inB, spanB]
  omega
theorem fits_cons {l : List (Nat × Nat)} {n s : Nat} (h1 : n < 256 ^ s) (h2 : 1 ≤ s) (h3 : s ≤ 7) (hl : ∀ p ∈ l, p.1 < 256 ^ p.2 ∧ 1 ≤ p.2 ∧ p.2 ≤ 7) : ∀ p ∈ (n, s) :: l, p.1 < 256 ^ p.2 ∧ 1 ≤ p.2 ∧ p.2 ≤ 7 := by
  intro p hp
  rcases List.mem_cons.1 hp with rfl | hp
  · exact ⟨h1, h2, h3⟩
  · exact hl p hp
theorem intent_fits {a b c d : Nat} (ha : a ≤ 1099511627776) (hb : b ≤ 1099511627776) (hc : c ≤ 4096) (hd : d ≤ 4096) : Fits (intentL a b c d) :=
  ⟨fits_cons (Nat.lt_of_le_of_lt ha (by decide)) (by decide) (by decide) (fits_cons (Nat.lt_of_le_of_lt hb (by decide)) (by decide) (by decide) (fits_cons (Nat.lt_of_le_of_lt hc (by decide)) (by decide) (by decide)
    (fits_cons (Nat.lt_of_le_of_lt hd (by decide)) (by decide) (by decide) (fun _ h => by cases h)))), by show 16 ≤ 59; decide⟩
def PutIPost (w : World) (xs : List Int) (y : Bk) (e : Ending) (w' : World) : Prop :=
  ((mayI xs = true ∧ e = .returned (.tuple #[.agg (bkC y).toArray, .int .i64 0])) ∨ (mayI xs = false ∧ e = .returned (.tuple #[.agg (bkC zB).toArray, .int .i64 10]))) ∧ Below w.heap.size w w'
set_option maxRecDepth 100000 in
theorem putI_any {w : World} {gs gt : Nat} (hF : FormI w gs gt) (hN : Nib w) (a b c d : Int) :
    Calls Tryz.prog 67 #[formIV gs gt, .agg #[.int .i64 a, .int .i64 b, .int .i64 c, .int .i64 d]] w (PutIPost w [a, b, c, d] (intentB a.toNat b.toNat c.toNat d.toNat)) := by
  obtain ⟨hs, v, hv, hB⟩ := hF
  have htell : ∀ W, Below w.heap.size w W → Calls Tryz.prog 116 (#[.agg [Value.int .i64 a, .int .i64 b, .int .i64 c, .int .i64 d].toArray] ++ #[]) W (TellPost W 4 [a, b, c, d]) := fun W _ =>
    (tellI a b c d W).mono (fun e w' ⟨g, he, hg, hge, hb⟩ => ⟨g, 4, he, range_of_block hg, hb⟩)
  have hmay : ∀ W gl cc, Below w.heap.size w W → W.rangeAt gl 0 (ints [a, b, c, d]) → Calls Tryz.prog 117 (#[.slice (some ⟨gl, 0, none⟩) 4 cc] ++ #[.pointer (some ⟨gt, 0, none⟩)]) W fun e W' => e = .returned (.bool (mayI [a, b, c, d])) ∧ Below W.heap.size W W' := fun W gl cc hW hr =>
    mayI_any a b c d ((Upd.of_below (S := fun _ => False) hW).cellv hv (fun h => h)) (hB.below hW) hr
  cases hm : mayI [a, b, c, d] with
  | false =>
    rw [hm] at hmay
    exact (putI_no (w := w) 4 [a, b, c, d] 4 gs 4 116 117 #[] #[.pointer (some ⟨gt, 0, none⟩)] (.func (.func 119) #[] #[]) rfl [Value.int .i64 a, .int .i64 b, .int .i64 c, .int .i64 d] infoIn (fun _ _ => rfl) (fun _ _ => rfl) htell hmay).mono
      (fun e w' ⟨he, hb⟩ => ⟨.inr ⟨hm, he⟩, hb⟩)
  | true =>
    rw [hm] at hmay
    obtain ⟨⟨⟨a1, a2⟩, b1, b2⟩, c1, d1, d2, c2⟩ := mayI_iff.1 hm
    have e : numsL (intentL a.toNat b.toNat c.toNat d.toNat) = [a, b, c, d] := by simp only [numsL, intentL, List.map_cons, List.map_nil]; rw [Int.toNat_of_nonneg a1, Int.toNat_of_nonneg b1, Int.toNat_of_nonneg c1, Int.toNat_of_nonneg (by omega)]
    rw [← e] at htell hmay
    exact (putI_yes (w := w) 4 (by decide) (intentL a.toNat b.toNat c.toNat d.toNat) (intent_fits (by omega) (by omega) (by omega) (by omega)) 4 rfl (by decide) gs 4 116 117 #[] #[.pointer (some ⟨gt, 0, none⟩)] (.func (.func 119) #[] #[]) rfl [Value.int .i64 a, .int .i64 b, .int .i64 c, .int .i64 d] infoIn hs hN (fun _ _ => rfl) (fun _ _ => rfl) htell hmay).mono
      (fun e w' ⟨he, hb⟩ => ⟨.inl ⟨hm, he⟩, hb⟩)
set_option maxRecDepth 100000 in
set_option maxHeartbeats 1000000 in
theorem PutI_any {w : World} (hN : Nib w) (a b c d : Int) :
    Calls Tryz.prog 20 #[.agg #[.int .i64 a, .int .i64 b, .int .i64 c, .int .i64 d]] w (PutIPost w [a, b, c, d] (intentB a.toNat b.toNat c.toNat d.toNat)) := by
  have HN := Lib.hid hN
  clear hN
  go_enter Tryz.func20, Tryz.ntmps20
  go_wp2_with fail
  change Code.wp _ _ _ _ ((w.alloc (.cells [Value.int .i64 a, .int .i64 b, .int .i64 c, .int .i64 d].toArray 39)).alloc (.cells (bkC zB).toArray 23))
  have hr : ((w.alloc (.cells [Value.int .i64 a, .int .i64 b, .int .i64 c, .int .i64 d].toArray 39)).alloc (.cells (bkC zB).toArray 23)).rangeAt w.heap.size 0 [Value.int .i64 a, .int .i64 b, .int .i64 c, .int .i64 d] := World.rangeAt_alloc (range_of_block (heap_alloc_last w _ rfl)) _
  have hg : ((w.alloc (.cells [Value.int .i64 a, .int .i64 b, .int .i64 c, .int .i64 d].toArray 39)).alloc (.cells (bkC zB).toArray 23)).heap[w.heap.size + 1]? = some (.cells (bkC zB).toArray 23) := heap_alloc_last _ _ (by simp)
  have hu : Upd (fun _ => False) w ((w.alloc (.cells [Value.int .i64 a, .int .i64 b, .int .i64 c, .int .i64 d].toArray 39)).alloc (.cells (bkC zB).toArray 23)) := ((Upd.refl _ w).alloc _).alloc _
  generalize (w.alloc (.cells [Value.int .i64 a, .int .i64 b, .int .i64 c, .int .i64 d].toArray 39)).alloc (.cells (bkC zB).toArray 23) = w2 at *
  have hb2 : Below w.heap.size w w2 := Upd.below hu
  refine wp_region_held_drew (S := fun W => W.rangeAt w.heap.size 0 [Value.int .i64 a, .int .i64 b, .int .i64 c, .int .i64 d]) (by kernel_rfl) (by rw [World.rangeAt_drew]; exact hr) (fun hHeld => ?_)
  refine' wpAnyH_take (i := 1) rfl (by kernel_rfl) (by kernel_rfl) (by kernel_rfl) (fun _ _ _ h => h) (yieldsIf_load_mid (by rfl) _ _ rfl _ _ rfl _ _ (fun w h => h) Tryz.underlying39 rfl infoIn) hHeld _
  simp only [List.getElem_toArray, List.getElem_cons_succ, List.getElem_cons_zero, Act.put, List.setIfInBounds_toArray, List.set_cons_zero, List.set_cons_succ]
  refine wpAnyH_ready (rs := [0]) (by kernel_rfl) (by simp) ?_
  refine AllReadyH.cons rfl (fun K hK => ?_) AllReadyH.nil
  go_simp
  refine (intents_any _).mono ?_
  rintro e w3 ⟨gs, gt, rfl, hF, hb3⟩
  have hb3' : Below w2.heap.size w2 w3 := bundrew' hb3
  refine hK.out _ _ (Below.range hb3 hHeld) (fun hHeld2 => ?_)
  clear hK K
  refine wpAnyH_ready (rs := [2]) (by kernel_rfl) (by simp) ?_
  refine AllReadyH.cons rfl (fun K hK => ?_) AllReadyH.nil
  go_simp
  refine (putI_any hF ((HN.out.keep hu (fun h => h)).below hb3') a b c d).mono ?_
  rintro e w4 ⟨he, hb4⟩
  have hb4' : Below w2.heap.size w2 w4 := hb3'.trans (hb4.mono hb3'.size)
  have hg4 := (hb4'.block _ (lt_of_block hg)).trans hg
  have hth : w4.there (w.heap.size + 1) 0 64 := fun j hj => by
    rw [cell_of_block hg4, frozen_of_block hg4]
    exact ⟨by rw [Nat.zero_add, Array.getElem?_eq_getElem (by rw [bkC_size _ zB_len]; exact hj)]; rfl, rfl⟩
  obtain ⟨y, cd, hy, hres, rfl⟩ : ∃ (y : Bk) (cd : Int), y.length = 64 ∧ ((mayI [a, b, c, d] = true ∧ y = intentB a.toNat b.toNat c.toNat d.toNat ∧ cd = 0) ∨ (mayI [a, b, c, d] = false ∧ y = zB ∧ cd = 10)) ∧ e = .returned (.tuple #[.agg (bkC y).toArray, .int .i64 cd]) := by
    rcases he with ⟨hm, rfl⟩ | ⟨hm, rfl⟩
    · exact ⟨_, 0, sectB_len (by show 16 ≤ 59; decide), .inl ⟨hm, rfl, rfl⟩, rfl⟩
    · exact ⟨_, 10, zB_len, .inr ⟨hm, rfl, rfl⟩, rfl⟩
  have HR := Lib.hid (And.intro hy hres)
  clear he hy hres
  have hst : w4.there (w.heap.size + 1) 0 (bkC y).toArray.size := by rw [bkC_size _ HR.out.1]; exact hth
  have hst2 : w4.there (w.heap.size + 1) 0 (bkC y).length := by rw [bkC_len, HR.out.1]; exact hth
  have hsz2 : (Tryz.prog.info? 23).map (·.size) = some (bkC y).toArray.size := by rw [bkC_size _ HR.out.1]; exact sizeBk'
  refine hK.out _ _ (Below.range hb4 hHeld2) (fun hHeld3 => ?_)
  clear hK K
  refine tk (i := 3) (v := ?_) rfl ?_ hHeld3 ?_
  rotate_left
  · intro W hSw; (try dsimp only at hSw); (try go_split_ands); go_simp; (try with_reducible rfl)
  simp only [List.getElem_toArray, List.getElem_cons_succ, List.getElem_cons_zero, Act.put, List.setIfInBounds_toArray, List.set_cons_zero, List.set_cons_succ]
  refine tk (i := 4) (v := ?_) rfl ?_ hHeld3 ?_
  rotate_left
  · intro W hSw; (try dsimp only at hSw); (try go_split_ands); go_simp; (try with_reducible rfl)
  simp only [List.getElem_toArray, List.getElem_cons_succ, List.getElem_cons_zero, Act.put, List.setIfInBounds_toArray, List.set_cons_zero, List.set_cons_succ]
  have hU5 : Below w.heap.size w (w4.setCells (w.heap.size + 1) 0 (bkC y)) := below_upd (hb2.trans (hb4'.mono hu.size)) (upd_row w4 (w.heap.size + 1) 0 _) (Nat.le_refl _) (fun k e => by omega)
  refine wpAnyH_ready (rs := [5]) (by kernel_rfl) (by simp) ?_
  refine AllReadyH.cons rfl (fun K hK => ?_) AllReadyH.nil
  rw [if_pos (by rfl)]
  refine wp_store_mid _ _ _ rfl _ _ (List.toArray _) rfl rfl (hst) (hsz2) (all_oneCell_toArray (bkC_one _)) ?_
  simp only [Act.put, List.setIfInBounds_toArray]
  refine hK.out _ _ ((upd_row w4 (w.heap.size + 1) 0 (bkC y)).range hHeld3 (by omega)) (fun hHeld4 => ?_)
  clear hK K
  refine wpAnyH_ready (rs := [6]) (by kernel_rfl) (by simp) ?_
  refine AllReadyH.cons rfl (fun K hK => ?_) AllReadyH.nil
  go_simp
  refine hK.out _ _ (hHeld4) (fun _ => ?_)
  clear hK K
  refine wpAnyH_done (by kernel_rfl) ?_ _
  have HE := Lib.hid (And.intro hU5 hst2)
  clear hst hst2 hsz2 hU5 hth hg4 hb4 hb4' hb3 hb3' hHeld hHeld2 hHeld3 hHeld4 hF hr hg hu hb2
  go_wp2
  refine bodyPost_ret (results_mid2 rfl _ _ (w.heap.size + 1) 0 (bkC y) _ rfl (World.rangeAt_setCells_same _ _ _ _ HE.out.2) Tryz.underlying23 rfl (sizeBk _ HR.out.1)) rfl ⟨?_, HE.out.1⟩
  rcases HR.out.2 with ⟨hm, rfl, rfl⟩ | ⟨hm, rfl, rfl⟩
  · exact .inl ⟨hm, rfl⟩
  · exact .inr ⟨hm, rfl⟩
def numsAt (b : Bk) : Nat → List Nat → List Nat
  | _, [] => []
  | p, s :: ss => numB ((b.drop p).take s) :: numsAt b (p + s) ss
def natsI (l : List Nat) : List Int := l.map fun (n : Nat) => (n : Int)
def okGet (b : Bk) (k : Nat) (ss : List Nat) (mb : Bool) : Bool := decide (sealB b = b) && (decide (numB (b.take 1) = k) && (endB b (1 + ss.sum) && mb))
def cdGet (b : Bk) (k : Nat) (ss : List Nat) (mb : Bool) : Int := if okGet b k ss mb = true then 0 else if sealB b = b then 12 else 13
def TellPostC (W : World) (m : Nat) (xs : List Int) (e : Ending) (W' : World) : Prop := ∃ g c, e = .returned (.slice (some ⟨g, 0, none⟩) m c) ∧ m ≤ c ∧ c ≤ maxLen ∧ W'.rangeAt g 0 (ints xs) ∧ Below W.heap.size W W'
def numL (sz : List Nat) (xs : List Int) : List (Nat × Nat) := (xs.map Int.toNat).zip sz
theorem numL_len {sz : List Nat} {xs : List Int} (h : xs.length = sz.length) : (numL sz xs).length = sz.length := by simp [numL, h]
theorem numL_szs {sz : List Nat} {xs : List Int} (h : xs.length = sz.length) : sizesL (numL sz xs) = natsI sz := by
  unfold sizesL natsI numL
  rw [show (fun (p : Nat × Nat) => (p.2 : Int)) = (fun (n : Nat) => (n : Int)) ∘ Prod.snd from rfl, ← List.map_map, List.map_snd_zip (by simp [h])]
theorem numL_sizes {sz : List Nat} {xs : List Int} (h : xs.length = sz.length) : sizes (numL sz xs) = sz.sum := by
  unfold sizes numL
  rw [List.map_snd_zip (by simp [h])]
theorem numL_nums {sz : List Nat} {xs : List Int} (h : xs.length = sz.length) (h0 : ∀ x ∈ xs, 0 ≤ x) : numsL (numL sz xs) = xs := by
  unfold numsL numL
  rw [show (fun (p : Nat × Nat) => (p.1 : Int)) = (fun (n : Nat) => (n : Int)) ∘ Prod.fst from rfl, ← List.map_map, List.map_fst_zip (by simp [h]), List.map_map]
  conv => rhs; rw [← List.map_id xs]
  exact List.map_congr_left (fun x hx => by simp [Int.toNat_of_nonneg (h0 x hx)])
theorem numL_fits {sz : List Nat} {xs : List Int} (h : xs.length = sz.length) (hs : sz.sum ≤ 59) (hz : ∀ s ∈ sz, 1 ≤ s ∧ s ≤ 7) (hb : ∀ i (h1 : i < xs.length) (h2 : i < sz.length), 0 ≤ xs[i] ∧ xs[i] < 256 ^ sz[i]) : Fits (numL sz xs) := by
  refine ⟨fun p hp => ?_, by rw [numL_sizes h]; exact hs⟩
  obtain ⟨i, hi, rfl⟩ := List.getElem_of_mem hp
  rw [numL_len h] at hi
  have h1 : i < xs.length := by omega
  have := hb i h1 hi
  simp only [numL, List.getElem_zip, List.getElem_map]
  have h3 := hz sz[i] (List.getElem_mem hi)
  refine ⟨?_, h3.1, h3.2⟩
  have h4 : ((256 ^ sz[i] : Nat) : Int) = (256 : Int) ^ sz[i] := by simp
  omega
structure Ent where
  b : Nat
  s : Nat
  d : Bool
  m : Nat
def Ent.none : Ent := ⟨0, 0, false, 0⟩
def bitN (d : Bool) : Nat := if d then 1 else 0
def entC (x : Ent) : List Value := [.int .i64 (x.b : Int), .int .i64 (x.s : Int), .bool x.d, .int .i64 (x.m : Int)]
def entN (x : Ent) : List Nat := [x.b, x.s, bitN x.d, x.m]
def pgC (seq no of many : Nat) (E : List Ent) : List Value := [.int .i64 (seq : Int), .int .i64 (no : Int), .int .i64 (of : Int), .int .i64 (many : Int)] ++ E.flatMap entC
def pgN (seq no of many : Nat) (E : List Ent) : List Nat := [seq, no, of, many] ++ E.flatMap entN
theorem entC_len (x : Ent) : (entC x).length = 4 := rfl
theorem entC_one (x : Ent) : ∀ v ∈ entC x, v.oneCell' = true := by
  intro v hv
  simp only [entC, List.mem_cons, List.not_mem_nil, or_false] at hv
  rcases hv with rfl | rfl | rfl | rfl <;> rfl
theorem ents_len (E : List Ent) : (E.flatMap entC).length = E.length * 4 := length_flat (f := entC) (fun _ => rfl) E
theorem ents_at {E : List Ent} {i : Nat} (hi : i < E.length) : ((E.flatMap entC).drop (i * 4)).take 4 = entC (E.getD i Ent.none) := by
  induction E generalizing i with
  | nil => simp at hi
  | cons x E ih =>
    cases i with
    | zero => rfl
    | succ i =>
      rw [List.flatMap_cons, show (i + 1) * 4 = (entC x).length + i * 4 by rw [entC_len]; omega, List.drop_length_add_append]
      simpa using ih (i := i) (by simpa using hi)
theorem bit_any (d : Bool) (w : World) : Calls Tryz.prog 235 #[.bool d] w fun e w' => e = .returned (.int .i64 (bitN d : Int)) ∧ w = w' := by
  cases d
  all_goals
    go_enter Tryz.func235, Tryz.ntmps235
    go_wp2
    go_ret
    exact ⟨rfl, rfl⟩
theorem infoPg : (Tryz.prog.info? 337).map (·.size) = some 20 := by kernel_rfl
theorem infoEs : (Tryz.prog.info? 335).map (·.size) = some 16 := by kernel_rfl
theorem infoEn : (Tryz.prog.info? 245).map (·.size) = some 4 := by kernel_rfl
theorem run_index_ents {E : List Ent} (hE : E.length = 4) {k : Nat} (hk : k < 4) (w : World) :
    (Instr.index 335 (.agg (E.flatMap entC).toArray) (.int .i64 (k : Int))).run Tryz.prog w = .ok (.agg (entC (E.getD k Ent.none)).toArray) w := by
  have hu := Tryz.underlying245
  obtain ⟨i, hi, hs⟩ := Option.map_eq_some_iff.1 infoEn
  have hz : (Array.extract (E.flatMap entC).toArray (k * 4) (k * 4 + 4)) = (entC (E.getD k Ent.none)).toArray := by
    apply Array.toList_inj.1
    rw [Array.toList_extract]
    simp only [List.extract]
    rw [show k * 4 + 4 - k * 4 = 4 by omega]
    exact ents_at (by omega)
  have hz2 := ents_at (E := E) (i := k) (by omega)
  simp [Instr.index, asIntOf, run_underlying Tryz.underlying335, sizeOf, typeInfo, hi, hs, part, isAgg, run_underlying hu, hk, hz2]
theorem infoIn1 : (Tryz.prog.info? 3).map (fun i => (i.zero, i.size, i.bytes)) = some (some (.int .i64 0), 1, 8) := by kernel_rfl
set_option maxRecDepth 100000 in
set_option maxHeartbeats 2000000 in
theorem tellP {w : World} (seq no of many : Nat) (E : List Ent) (hE : E.length = 4) :
    Calls Tryz.prog 255 #[.agg (pgC seq no of many E).toArray] w (TellPostC w 20 (natsI (pgN seq no of many E))) := by
  obtain ⟨i0, hi, hz0, hz1, hz2⟩ := info_parts infoIn1
  obtain ⟨L, hL⟩ : ∃ L, L = (pgC seq no of many E).toArray := ⟨_, rfl⟩
  have hg := heap_alloc_last w (.cells L 337) rfl
  have k0 : (w.alloc (.cells L 337)).cell? ⟨w.heap.size, 0, none⟩ = some (.int .i64 (seq : Int)) := (cell_of_block hg 0).trans (by rw [hL]; rfl)
  have k1 : (w.alloc (.cells L 337)).cell? ⟨w.heap.size, 1, none⟩ = some (.int .i64 (no : Int)) := (cell_of_block hg 1).trans (by rw [hL]; rfl)
  have k2 : (w.alloc (.cells L 337)).cell? ⟨w.heap.size, 2, none⟩ = some (.int .i64 (of : Int)) := (cell_of_block hg 2).trans (by rw [hL]; rfl)
  have k3 : (w.alloc (.cells L 337)).cell? ⟨w.heap.size, 3, none⟩ = some (.int .i64 (many : Int)) := (cell_of_block hg 3).trans (by rw [hL]; rfl)
  have hr : (w.alloc (.cells L 337)).rangeAt w.heap.size 4 (E.flatMap entC) := fun j v hv => by
    rw [cell_of_block hg, hL, List.getElem?_toArray, pgC, List.getElem?_append_right (by simp)]
    rw [← hv]; congr 1; simp
  have hsz : (Tryz.prog.info? 335).map (·.size) = some (E.flatMap entC).length := by rw [ents_len, hE]; exact infoEs
  have hix := fun (k : Nat) (hk : k < 4) (w : World) => run_index_ents hE hk w
  have HI := Lib.hid (And.intro hix hE)
  rw [← hL]
  have hR := World.rangeAt_alloc hr (.cells #[.int .i64 (seq : Int), .int .i64 (no : Int), .int .i64 (of : Int), .int .i64 (many : Int)] 3)
  have HL := Lib.hid hL
  clear hL hix hE hg hr
  go_enter Tryz.func255, Tryz.ntmps255
  go_wp2_with (first
    | refine wpList_load_mid rfl _ _ rfl _ _ rfl _ _ hR Tryz.underlying335 rfl hsz ?_
    | fail)
  have hrow : (w.alloc (.cells L 337)).alloc (.cells #[.int .i64 (seq : Int), .int .i64 (no : Int), .int .i64 (of : Int), .int .i64 (many : Int)] 3) = (w.alloc (.cells L 337)).alloc (.cells #[.int .i64 (seq : Int), .int .i64 (no : Int), .int .i64 (of : Int), .int .i64 (many : Int)] 3) := rfl
  have hown : ((w.alloc (.cells L 337)).alloc (.cells #[.int .i64 (seq : Int), .int .i64 (no : Int), .int .i64 (of : Int), .int .i64 (many : Int)] 3)).ownsRow w.heap.size 3 1 (.slice (some ⟨w.heap.size + 1, 0, none⟩) 4 4) 4 (ints (natsI ([seq, no, of, many] ++ (E.take 0).flatMap entN))) := by
    refine ⟨by simp [natsI], .inr ⟨w.heap.size + 1, 4, _, rfl, by omega, heap_alloc_last _ _ (by simp), by omega, by unfold maxLen; omega, by simp, by simp [natsI, ints]⟩⟩
  have hB : Below w.heap.size w ((w.alloc (.cells L 337)).alloc (.cells #[.int .i64 (seq : Int), .int .i64 (no : Int), .int .i64 (of : Int), .int .i64 (many : Int)] 3)) := ((Below.refl _ w).alloc (Nat.le_refl _) _).alloc (by simp) _
  generalize (w.alloc (.cells L 337)).alloc (.cells #[.int .i64 (seq : Int), .int .i64 (no : Int), .int .i64 (of : Int), .int .i64 (many : Int)] 3) = w2 at *
  have HO := Lib.hid (And.intro hown hB)
  clear hown hB hR hsz k0 k1 k2 k3 hrow
  go_loopw [3, 17] (fun s3 s17 wr => ∃ k : Nat, k ≤ 4 ∧ s17 = .int .i64 k ∧ wr.ownsRow w.heap.size 3 1 s3 (4 + 4 * k) (ints (natsI ([seq, no, of, many] ++ (E.take k).flatMap entN))) ∧ Below w.heap.size w wr) (fun _ s17 _ => 4 - (intOf s17).toNat)
  case atStart => exact ⟨0, by omega, rfl, HO.out.1, HO.out.2⟩
  case round =>
    obtain ⟨k, hk, rfl, hown, hb⟩ := hrel
    by_cases hlt : k < 4
    · have hEk := HI.out.1 k hlt
      have hts : Hid ((E.take (k + 1)).flatMap entN = (E.take k).flatMap entN ++ entN (E.getD k Ent.none)) := by
        show _ = _
        have hk2 : k < E.length := by have := HI.out.2; omega
        rw [List.take_succ_eq_append_getElem hk2, List.flatMap_append]
        simp [List.getD_eq_getElem?_getD, hk2]
      generalize E.getD k Ent.none = x at *
      obtain ⟨xb, xs, xd, xm⟩ := x
      have hXL : Hid ((entC ⟨xb, xs, xd, xm⟩).toArray = #[Value.int .i64 (xb : Int), .int .i64 (xs : Int), .bool xd, .int .i64 (xm : Int)]) := rfl
      rw [hXL.out] at hEk
      have b1 : (0 : Int) ≤ (k : Int) := by omega
      have b2 : (k : Int) < 4 := by omega
      have hO := Lib.hid (And.intro hown hb)
      have hg3 := heap_alloc_last wr (.cells #[Value.int .i64 (xb : Int), .int .i64 (xs : Int), .bool xd, .int .i64 (xm : Int)] 245) rfl
      have hown3 := hO.out.1.alloc (.cells #[Value.int .i64 (xb : Int), .int .i64 (xs : Int), .bool xd, .int .i64 (xm : Int)] 245)
      have hb3 := hO.out.2.alloc hO.out.2.size (.cells #[Value.int .i64 (xb : Int), .int .i64 (xs : Int), .bool xd, .int .i64 (xm : Int)] 245)
      have hnm : ¬ u3.ownBlock = some wr.heap.size := fun e => by have := (hO.out.1.lt _ e).2; omega
      clear hown hb
      go_wp2
      generalize wr.alloc (.cells #[Value.int .i64 (xb : Int), .int .i64 (xs : Int), .bool xd, .int .i64 (xm : Int)] 245) = w3 at *
      generalize wr.heap.size = m at *
      have k0 : w3.cell? ⟨m, 0, none⟩ = some (.int .i64 (xb : Int)) := cell_of_block hg3 0
      have k1 : w3.cell? ⟨m, 1, none⟩ = some (.int .i64 (xs : Int)) := cell_of_block hg3 1
      have k2 : w3.cell? ⟨m, 2, none⟩ = some (.bool xd) := cell_of_block hg3 2
      have k3 : w3.cell? ⟨m, 3, none⟩ = some (.int .i64 (xm : Int)) := cell_of_block hg3 3
      have hownA := (hown3.alloc (.cells #[Value.int .i64 (xb : Int), .int .i64 (xs : Int), .int .i64 (bitN xd : Int), .int .i64 (xm : Int)] 3)).drew
      have hbA : Below w.heap.size w (w3.alloc (.cells #[Value.int .i64 (xb : Int), .int .i64 (xs : Int), .int .i64 (bitN xd : Int), .int .i64 (xm : Int)] 3)).drew := below_drewN (hb3.alloc hb3.size _) 1
      have hgA : (w3.alloc (.cells #[Value.int .i64 (xb : Int), .int .i64 (xs : Int), .int .i64 (bitN xd : Int), .int .i64 (xm : Int)] 3)).drew.heap[w3.heap.size]? = _ := heap_alloc_last w3 (.cells #[Value.int .i64 (xb : Int), .int .i64 (xs : Int), .int .i64 (bitN xd : Int), .int .i64 (xm : Int)] 3) rfl
      obtain ⟨v', w1, hrun, ho1, hgr, -⟩ := run_append_own (P := Tryz.prog) (w := (w3.alloc (.cells #[Value.int .i64 (xb : Int), .int .i64 (xs : Int), .int .i64 (bitN xd : Int), .int .i64 (xm : Int)] 3)).drew) w.heap.size 100 100 3 i0 (.int .i64 0) 1 8 Tryz.underlying100 hi hz0 hz1 hz2 rfl (by decide) u3 (4 + 4 * k) _ hownA ⟨w3.heap.size, 0, none⟩ 4 4 [.int .i64 (xb : Int), .int .i64 (xs : Int), .int .i64 (bitN xd : Int), .int .i64 (xm : Int)] rfl
        (fun j u hj => by rw [Addr.add_lit, cell_of_block hgA]; simpa using hj) (by intro u hu; simp at hu; rcases hu with rfl | rfl | rfl | rfl <;> rfl) (by unfold maxLen; omega) (by omega) hbA.size
      have hb1 : Below w.heap.size w w1 := below_upd hbA (Upd.of_grown (S := fun j => w.heap.size ≤ j) hgr (fun g hg _ => (hownA.lt g hg).1)) (Nat.le_refl _) (fun k h => h)
      have hgu : Upd (fun j => u3.ownBlock = some j) _ w1 := Upd.of_grown (S := fun j => u3.ownBlock = some j) hgr (fun g hg _ => hg)
      have q0 := hgu.cellv (w := (w3.alloc (.cells #[Value.int .i64 (xb : Int), .int .i64 (xs : Int), .int .i64 (bitN xd : Int), .int .i64 (xm : Int)] 3)).drew) (cell_keep_alloc k0 _) hnm
      have q1 := hgu.cellv (w := (w3.alloc (.cells #[Value.int .i64 (xb : Int), .int .i64 (xs : Int), .int .i64 (bitN xd : Int), .int .i64 (xm : Int)] 3)).drew) (cell_keep_alloc k1 _) hnm
      have q2 := hgu.cellv (w := (w3.alloc (.cells #[Value.int .i64 (xb : Int), .int .i64 (xs : Int), .int .i64 (bitN xd : Int), .int .i64 (xm : Int)] 3)).drew) (cell_keep_alloc k2 _) hnm
      have q3 := hgu.cellv (w := (w3.alloc (.cells #[Value.int .i64 (xb : Int), .int .i64 (xs : Int), .int .i64 (bitN xd : Int), .int .i64 (xm : Int)] 3)).drew) (cell_keep_alloc k3 _) hnm
      have HF := Lib.hid (And.intro ho1 hb1)
      clear hownA hbA hgA ho1 hgr hb1 hown3 hb3 hg3 hEk hgu
      go_region_held3 (fun W => W.cell? ⟨m, 0, none⟩ = some (.int .i64 (xb : Int)) ∧ W.cell? ⟨m, 1, none⟩ = some (.int .i64 (xs : Int)) ∧ W.cell? ⟨m, 2, none⟩ = some (.bool xd) ∧ W.cell? ⟨m, 3, none⟩ = some (.int .i64 (xm : Int)))
        ((go_split_ands; (simp only [World.cell?_drew] at *); ((repeat' constructor) <;> first | assumption | (apply cell_keep_alloc; assumption) | exact trivial)))
        (first | (go_at_call 235; refine (bit_any _ _).mono ?_; rintro e w' ⟨rfl, rfl⟩) | (refine step_append_run rfl _ _ _ rfl rfl rfl hrun ?_))
      go_wp2
      go_roundw
      case rel =>
        refine ⟨k + 1, by omega, by go_num, ?_, HF.out.2⟩
        have := HF.out.1
        rw [hts.out, show 4 + 4 * (k + 1) = 4 + 4 * k + 4 by omega]
        simpa [ints, natsI, entN] using this
      case measure => simp [intOf]; omega
    · obtain rfl : k = 4 := by omega
      have HX := Lib.hid (And.intro hown hb)
      clear hown hb
      go_wp2
      go_ret
      obtain ⟨hown, hb⟩ := HX.out
      rw [List.take_of_length_le (by have := HI.out.2; omega)] at hown
      obtain ⟨hl, ⟨_, h0⟩ | ⟨g, cap, cur, rfl, -, hg, hn, hcm, hs, ht⟩⟩ := hown
      · omega
      · refine ⟨g, cap, rfl, hn, hcm, fun j v hv => ?_, hb⟩
        rw [cell_of_block hg, ← Array.getElem?_toList]
        have hv' : (cur.toList.take ((4 + 4 * 4) * 1))[j]? = some v := by rw [ht]; exact hv
        rw [List.getElem?_take] at hv'
        split at hv'
        · simpa using hv'
        · cases hv'
def bndR : List (Int × Int) := [(1, 1099511627776), (0, 1099511627776), (0, 1), (0, 4095), (0, 1023), (0, 1), (0, 4294967295)]
def mayR (xs : List Int) : Bool := withinB bndR xs && (decide (xs.getD 2 0 = 0) || (decide (xs.getD 4 0 = 0) && decide (xs.getD 5 0 = 0) && decide (xs.getD 6 0 = 0)))
theorem cellR {w : World} {g o : Nat} {xs : List Int} (hr : w.rangeAt g o (ints xs)) (i : Nat) (hi : i < xs.length) : w.cell? ⟨g, o + i, none⟩ = some (.int .i64 (xs.getD i 0)) := by
  rw [ints_range hr (i := i) hi]; simp [List.getD_eq_getElem?_getD, hi]
set_option maxRecDepth 100000 in
set_option maxHeartbeats 2000000 in
theorem mayR_any {w : World} {gl ol cl gt : Nat} {v : Value} (xs : List Int) (hxl : xs.length = 7) (_hcl : 7 ≤ cl) (_hcm : cl ≤ maxLen) (hv : w.cell? ⟨gt, 0, none⟩ = some v) (hB : Bnd w v bndR) (hx : w.rangeAt gl ol (ints xs)) :
    Calls Tryz.prog 236 #[.slice (some ⟨gl, ol, none⟩) 7 cl, .pointer (some ⟨gt, 0, none⟩)] w fun e w' => e = .returned (.bool (mayR xs)) ∧ Below w.heap.size w w' := by
  obtain ⟨g, h, cc, rfl, hc, hr⟩ := hB
  have HW := Lib.hid (within_any (cl := cl) bndR xs hc hr hx hxl (by show 7 ≤ 7; decide) (by decide))
  have HM : Hid (mayR xs = (withinB bndR xs && (decide (xs.getD 2 0 = 0) || (decide (xs.getD 4 0 = 0) && decide (xs.getD 5 0 = 0) && decide (xs.getD 6 0 = 0))))) := rfl
  have HC := Lib.hid (And.intro (cellR hx 2 (by omega)) (And.intro (cellR hx 4 (by omega)) (And.intro (cellR hx 5 (by omega)) (cellR hx 6 (by omega)))))
  generalize xs.getD 2 0 = x2 at HM HC
  generalize xs.getD 4 0 = x4 at HM HC
  generalize xs.getD 5 0 = x5 at HM HC
  generalize xs.getD 6 0 = x6 at HM HC
  clear hx hr hc hxl
  go_enter Tryz.func236, Tryz.ntmps236
  go_wp2_with fail
  refine HW.out.mono ?_
  rintro e w' ⟨rfl, hb⟩
  have hu := Upd.of_below (S := fun _ => False) hb
  have c2 := hu.cellv HC.out.1 (fun h => h)
  have c4 := hu.cellv HC.out.2.1 (fun h => h)
  have c5 := hu.cellv HC.out.2.2.1 (fun h => h)
  have c6 := hu.cellv HC.out.2.2.2 (fun h => h)
  have HB := Lib.hid hb
  clear hu hb
  generalize withinB bndR xs = wb at HM ⊢
  cases wb with
  | false =>
    clear c2 c4 c5 c6
    go_wp2
    go_ret
    exact ⟨by rw [HM.out]; rfl, HB.out⟩
  | true =>
    by_cases h2 : x2 = 0
    · subst h2
      clear c4 c5 c6
      go_wp2
      go_ret
      exact ⟨by rw [HM.out]; rfl, HB.out⟩
    · have q2 : (x2 == 0) = false := by simpa using h2
      have H2 := Lib.hid h2
      clear h2
      by_cases h4 : x4 = 0
      · subst h4
        by_cases h5 : x5 = 0
        · subst h5
          go_wp2
          go_ret
          refine ⟨?_, HB.out⟩
          rw [HM.out]
          simp [H2.out]
          by_cases h6 : x6 = 0 <;> simp [h6]
        · have q5 : (x5 == 0) = false := by simpa using h5
          have H5 := Lib.hid h5
          clear h5 c6
          go_wp2
          go_ret
          refine ⟨?_, HB.out⟩
          rw [HM.out]
          simp [H2.out, H5.out]
      · have q4 : (x4 == 0) = false := by simpa using h4
        have H4 := Lib.hid h4
        clear h4 c5 c6
        go_wp2
        go_ret
        refine ⟨?_, HB.out⟩
        rw [HM.out]
        simp [H2.out, H4.out]
theorem within_atR {B : List (Int × Int)} {xs : List Int} (h : withinB B xs = true) {i : Nat} (h1 : i < B.length) (h2 : i < xs.length) : B[i].1 ≤ xs[i] ∧ xs[i] ≤ B[i].2 := by
  have h := List.all_eq_true.1 h (B[i], xs[i]) (List.mem_iff_getElem.2 ⟨i, by simp; omega, by simp⟩)
  simpa [inB] using h
theorem mayR_fits {xs : List Int} (hx : xs.length = 7) (h : mayR xs = true) : (∀ x ∈ xs, 0 ≤ x) ∧ Fits (numL [6, 6, 1, 2, 2, 1, 4] xs) := by
  simp only [mayR, Bool.and_eq_true] at h
  obtain ⟨h1, -⟩ := h
  have a0 := within_atR h1 (i := 0) (by decide) (by omega)
  have a1 := within_atR h1 (i := 1) (by decide) (by omega)
  have a2 := within_atR h1 (i := 2) (by decide) (by omega)
  have a3 := within_atR h1 (i := 3) (by decide) (by omega)
  have a4 := within_atR h1 (i := 4) (by decide) (by omega)
  have a5 := within_atR h1 (i := 5) (by decide) (by omega)
  have a6 := within_atR h1 (i := 6) (by decide) (by omega)
  simp [bndR] at a0 a1 a2 a3 a4 a5 a6
  have hb : ∀ i (h1 : i < xs.length) (h2 : i < [6, 6, 1, 2, 2, 1, 4].length), 0 ≤ xs[i] ∧ xs[i] < 256 ^ [6, 6, 1, 2, 2, 1, 4][i] := by
    intro i hi hi2
    rcases i with _ | _ | _ | _ | _ | _ | _ | i
    all_goals first | (simp at hi2; omega) | (simp; omega)
  refine ⟨fun x hx' => ?_, numL_fits (by rw [hx]; rfl) (by decide) (by decide) hb⟩
  obtain ⟨i, hi, rfl⟩ := List.getElem_of_mem hx'
  exact (hb i hi (by rw [hx] at hi; exact hi)).1
end Go.Proofs.YtnadilfobmgebaaGreatDoor
