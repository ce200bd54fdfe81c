/- A thing of the kind Record, as a sector. The form of the kind Record; Put of a thing. Records: the record of numbers. The intent that a sector is: GetIntent. A sector of numbers, read again: the plain law. Equality of arrays of ints. Pages: may numbers be a page? -/
import Derived.Test.YtfhfbpmlnjdfoaaGreatDoorA06
import Derived.Laws.EntriesVeiled
import Derived.Test.YtfhfbpmlnjdfoaaGreatDoorA01
import Derived.Laws.StructEq
namespace Go.Proofs.YtfhfbpmlnjdfoaaGreatDoor
open Go Go.RowKit
def szR : List Nat := [6, 6, 1, 2, 2, 1, 4]
def formRV (gs gt : Nat) : Value := .agg #[.int .i64 2, .slice (some ⟨gs, 0, none⟩) 7 7, .func (.func 250) #[] #[], .func (.func 252) #[] #[.pointer (some ⟨gt, 0, none⟩)], .func (.func 253) #[] #[]]
def FormR (w : World) (gs gt : Nat) : Prop := w.rangeAt gs 0 (ints (natsI szR)) ∧ ∃ v, w.cell? ⟨gt, 0, none⟩ = some v ∧ Bnd w v bndR
theorem infoFoR : (Tryz.prog.info? 296).map (·.size) = some 5 := by kernel_rfl
theorem infoThR : (Tryz.prog.info? 101).map (·.size) = some 7 := by kernel_rfl
set_option maxRecDepth 100000 in
set_option maxHeartbeats 1000000 in
theorem records_any (w : World) : Calls Tryz.prog 178 #[] w fun e w' => ∃ gs gt, e = .returned (formRV gs gt) ∧ FormR w' gs gt ∧ Below w.heap.size w w' := by
  have hmf : ∀ (fn : Fn) (first cap : Array Value) (w : World), (Instr.makeFunc fn first cap).run Tryz.prog w = .ok (.func fn first cap) w := fun _ _ _ _ => rfl
  go_enter Tryz.func178, Tryz.ntmps178
  go_wp2_with fail
  refine (within_ok).mono ?_
  rintro e w1 ⟨rfl, rfl⟩
  go_wp2
  obtain ⟨h1, h2, h3, h4, h5, h6, h7⟩ := five_new w (.cells #[.int .i64 2, .slice (some ⟨w.heap.size + 1 + 1 + 1 + 1, 0, none⟩) 7 7, .func (.func 250) #[] #[], .func (.func 252) #[] #[.pointer (some ⟨w.heap.size + 1 + 1 + 1, 0, none⟩)], .func (.func 253) #[] #[]] 296)
    (.cells (bndC bndR).toArray 219) (.cells #[.slice (some ⟨w.heap.size + 1, 0, none⟩) 7 7] 321) (.cells #[.func (.func 196) #[] #[.pointer (some ⟨w.heap.size + 1 + 1, 0, none⟩)]] 134) (.cells (ints (natsI szR)).toArray 3)
  refine bodyPost_ret (results_mid1 rfl _ _ w.heap.size 0 [.int .i64 2, .slice (some ⟨w.heap.size + 1 + 1 + 1 + 1, 0, none⟩) 7 7, .func (.func 250) #[] #[], .func (.func 252) #[] #[.pointer (some ⟨w.heap.size + 1 + 1 + 1, 0, none⟩)], .func (.func 253) #[] #[]] _ rfl (range_of_block h1) Tryz.underlying296 rfl infoFoR) rfl
    ⟨w.heap.size + 1 + 1 + 1 + 1, w.heap.size + 1 + 1 + 1, rfl, ⟨range_of_block h5, _, cell_of_block h4 0, w.heap.size + 1 + 1, w.heap.size + 1, 7, rfl, cell_of_block h3 0, range_of_block h2⟩, Upd.below h7⟩
def dsR (xs : List Int) : List Value := [.int .i64 (xs.getD 0 0), .int .i64 (xs.getD 1 0), .int .i64 (xs.getD 2 0), .int .i64 (xs.getD 3 0), .int .i64 (xs.getD 4 0), .bool (xs.getD 5 0 == 1), .int .i64 (xs.getD 6 0)]
theorem dsR_len (xs : List Int) : (dsR xs).length = 7 := rfl
theorem dsR_one (xs : List Int) : ∀ v ∈ dsR xs, v.oneCell' = true := by
  intro v hv
  simp only [dsR, List.mem_cons, List.not_mem_nil, or_false] at hv
  rcases hv with rfl | rfl | rfl | rfl | rfl | rfl | rfl <;> rfl
set_option maxRecDepth 100000 in
set_option maxHeartbeats 1000000 in
theorem buildR {w : World} {gl ol cl : Nat} (xs : List Int) (hxl : xs.length = 7) (hx : w.rangeAt gl ol (ints xs)) :
    Calls Tryz.prog 253 #[.slice (some ⟨gl, ol, none⟩) 7 cl] w fun e w' => e = .returned (.agg (dsR xs).toArray) ∧ Below w.heap.size w w' := by
  have x0 := cellR hx 0 (by omega)
  have x1 := cellR hx 1 (by omega)
  have x2 := cellR hx 2 (by omega)
  have x3 := cellR hx 3 (by omega)
  have x4 := cellR hx 4 (by omega)
  have x5 := cellR hx 5 (by omega)
  have x6 := cellR hx 6 (by omega)
  rw [Nat.add_zero] at x0
  have hlt : gl < w.heap.size := World.block_lt_of_cell? w _ x0
  have hds : Hid (dsR xs = [.int .i64 (xs.getD 0 0), .int .i64 (xs.getD 1 0), .int .i64 (xs.getD 2 0), .int .i64 (xs.getD 3 0), .int .i64 (xs.getD 4 0), .bool (xs.getD 5 0 == 1), .int .i64 (xs.getD 6 0)]) := rfl
  generalize xs.getD 0 0 = y0 at *
  generalize xs.getD 1 0 = y1 at *
  generalize xs.getD 2 0 = y2 at *
  generalize xs.getD 3 0 = y3 at *
  generalize xs.getD 4 0 = y4 at *
  generalize xs.getD 5 0 = y5 at *
  generalize xs.getD 6 0 = y6 at *
  clear hx hxl
  go_enter Tryz.func253, Tryz.ntmps253
  go_wp2
  go_region
  go_wp2
  exact bodyPost_ret (results_mid1 rfl _ _ w.heap.size 0 [.int .i64 y0, .int .i64 y1, .int .i64 y2, .int .i64 y3, .int .i64 y4, .bool (y5 == 1), .int .i64 y6] _ rfl ((World.rangeAt_drew ..).2 (range_of_block (heap_alloc_last w _ rfl))) Tryz.underlying101 rfl infoThR) rfl
    ⟨by rw [hds.out], below_drewN ((Below.refl _ w).alloc (Nat.le_refl _) _) 1⟩
theorem drop_take_seal {x : Bk} (hx : x.length = 64) {p s : Nat} (h : p + s ≤ 60) : ((sealB x).drop p).take s = (x.drop p).take s := by
  apply List.ext_getElem?
  intro i
  by_cases hi : i < s
  · rw [List.getElem?_take_of_lt hi, List.getElem?_take_of_lt hi, List.getElem?_drop, List.getElem?_drop]
    unfold sealB
    rw [List.getElem?_append_left (by simp; omega), List.getElem?_take_of_lt (by omega)]
  · rw [List.getElem?_take_eq_none (by omega), List.getElem?_take_eq_none (by omega)]
theorem drop_take_pad {pre mid post : List UInt8} : ((padB (pre ++ mid ++ post)).drop pre.length).take mid.length = mid := by
  unfold padB
  rw [List.append_assoc, List.append_assoc, List.drop_left' rfl, List.take_left' rfl]
theorem numsAt_sect (l : List (Nat × Nat)) : ∀ (pre : List UInt8), pre.length + sizes l ≤ 60 → (∀ p ∈ l, p.1 < 256 ^ p.2) → numsAt (sealB (padB (pre ++ encB l))) pre.length (l.map (·.2)) = l.map (·.1) := by
  induction l with
  | nil => intro pre _ _; rfl
  | cons p l ih =>
    intro pre hp hf
    have hsz : sizes (p :: l) = p.2 + sizes l := by simp [sizes]
    have he : encB (p :: l) = lowB p.1 p.2 ++ encB l := by simp [encB]
    simp only [List.map_cons, numsAt, List.cons.injEq]
    constructor
    · rw [drop_take_seal (padB_len (by rw [List.length_append, encB_len]; omega)) (by omega), he, ← List.append_assoc]
      have := drop_take_pad (pre := pre) (mid := lowB p.1 p.2) (post := encB l)
      rw [lowB_len] at this
      rw [this]
      exact numB_low _ _ (hf p (by simp))
    · have := ih (pre ++ lowB p.1 p.2) (by rw [List.length_append, lowB_len]; omega) (fun q hq => hf q (by simp [hq]))
      rw [List.length_append, lowB_len, List.append_assoc] at this
      rw [he]; exact this
theorem sect_ok {k : Nat} (hk : k < 256) {l : List (Nat × Nat)} (hl : Fits l) (mb : Bool) : okGet (sectB k l) k (l.map (·.2)) mb = mb ∧ numsAt (sectB k l) 1 (l.map (·.2)) = l.map (·.1) := by
  have hpl := sect_pad_len (k := k) hl.2
  have hsz : (l.map (·.2)).sum = sizes l := rfl
  have hbl : (lowB k 1 ++ encB l).length = 1 + sizes l := by rw [List.length_append, lowB_len, encB_len]
  have h1 : sealB (sectB k l) = sectB k l := sealB_seal hpl
  have h2 : numB ((sectB k l).take 1) = k := by
    have := drop_take_seal hpl (p := 0) (s := 1) (by omega)
    rw [List.drop_zero, List.drop_zero] at this
    have h3 := drop_take_pad (pre := []) (mid := lowB k 1) (post := encB l)
    rw [lowB_len, List.nil_append, List.length_nil, List.drop_zero] at h3
    unfold sectB
    rw [this, h3]
    exact numB_low _ _ (by omega)
  have h3 : endB (sectB k l) (1 + sizes l) = true := by
    unfold endB sectB
    rw [drop_take_seal hpl (by have := hl.2; omega)]
    unfold padB
    rw [← hbl, List.drop_left' rfl, List.all_eq_true]
    intro x hx
    have := List.mem_of_mem_take hx
    rw [List.mem_replicate] at this
    simpa using this.2
  refine ⟨?_, ?_⟩
  · unfold okGet
    rw [hsz, h1, h2, h3]
    simp
  · have := numsAt_sect l (lowB k 1) (by rw [lowB_len]; have := hl.2; omega) (fun p hp => (hl.1 p hp).1)
    rw [lowB_len] at this
    exact this
theorem all_range_eqI : ∀ (xs ys : List Int), xs.length = ys.length → ((List.range xs.length).all fun i => xs.getD i 0 == ys.getD i 0) = (xs == ys)
  | [], [], _ => rfl
  | x :: xs, y :: ys, h => by
    have ih := all_range_eqI xs ys (by simpa using h)
    rw [List.length_cons, List.range_succ_eq_map, List.all_cons, List.all_map]
    simp only [List.getD_cons_zero, Function.comp_def, List.getD_cons_succ, ih]
    simp [List.cons_beq_cons]
  | [], _ :: _, h => by simp at h
  | _ :: _, [], h => by simp at h
section
variable {P : Program} (w : World)
theorem run_equalIn_ints (d : Nat) (t e : TypeId) (n : Nat) (ht : P.underlying t = some (.array n e)) (he : P.underlying e = some (.int .i64)) (hsz : ∀ w, (sizeOf e).run P w = .ok 1 w)
    (xs ys : List Int) (hx : xs.length = n) (hy : ys.length = n) :
    (Op.equalIn (d + 2) t (.agg (ints xs).toArray) (.agg (ints ys).toArray)).run P w = .ok (xs == ys) w := by
  rw [← all_range_eqI xs ys (hx.trans hy.symm), hx, List.range_eq_range', Op.equalIn]
  simp only [Sem.run_bind, run_underlying ht, Result.andThen_ok, hsz, Std.Legacy.Range.forIn_eq_forIn_range', Std.Legacy.Range.size, Nat.sub_zero, Nat.add_sub_cancel, Nat.div_one]
  have hl : ∀ i ∈ List.range' 0 n 1, i < n := fun i hi => by simpa using (List.mem_range'_1.1 hi).2
  generalize List.range' 0 n 1 = l at hl ⊢
  induction l with
  | nil => simp
  | cons i l ih =>
    have hi : i < n := hl i (by simp)
    have px : (part e (ints xs).toArray (i * 1)).run P w = .ok (.int .i64 (xs.getD i 0)) w := by
      simp [ints, part, isAgg, run_underlying he, List.getD, List.getElem?_eq_getElem (show i < xs.length by omega)]
    have py : (part e (ints ys).toArray (i * 1)).run P w = .ok (.int .i64 (ys.getD i 0)) w := by
      simp [ints, part, isAgg, run_underlying he, List.getD, List.getElem?_eq_getElem (show i < ys.length by omega)]
    have pe : (Op.equalIn (d + 1) e (.int .i64 (xs.getD i 0)) (.int .i64 (ys.getD i 0))).run P w = .ok (xs.getD i 0 == ys.getD i 0) w := by
      rw [run_equalIn_int w d e .i64 .i64 _ _ he]
    simp only [List.forIn_cons, Sem.run_bind, px, py, pe, Result.andThen_ok, List.all_cons]
    cases hb : (xs.getD i 0 == ys.getD i 0)
    · simp
    · simp only [Bool.not_true, Bool.false_eq_true, if_false, Sem.run_pure, Result.andThen_ok, Bool.true_and]
      exact ih fun j hj => hl j (by simp [hj])
theorem run_eql_ints (t e : TypeId) (n : Nat) (ht : P.underlying t = some (.array n e)) (he : P.underlying e = some (.int .i64)) (hsz : ∀ w, (sizeOf e).run P w = .ok 1 w)
    (xs ys : List Int) (hx : xs.length = n) (hy : ys.length = n) :
    (binOp .eql t (.agg (ints xs).toArray) (.agg (ints ys).toArray)).run P w = .ok (.bool (xs == ys)) w := by
  rw [run_eql_struct, run_equalIn_ints w 9998 t e n ht he hsz xs ys hx hy]
  rfl
end
def rowI (xs : List Int) (i : Nat) : List Int := (xs.drop (4 + 4 * i)).take 4
theorem rowI_len {xs : List Int} (h : xs.length = 20) {i : Nat} (hi : i < 4) : (rowI xs i).length = 4 := by simp [rowI]; omega
def bndE : List (Int × Int) := [(0, 4095), (0, 1023), (0, 1), (0, 4294967295)]
def entB (xs : List Int) (i : Nat) : Bool := if (i : Int) < xs.getD 3 0 then withinB bndE (rowI xs i) else decide (rowI xs i = [0, 0, 0, 0])
def entsB (xs : List Int) : Bool := (List.range 4).all (entB xs)
def bndP : List (Int × Int) := [(0, 1099511627776), (0, 255), (1, 256), (0, 4)]
def mayP (xs : List Int) : Bool := withinB bndP xs && decide (xs.getD 1 0 < xs.getD 2 0) && entsB xs
theorem infoEy : (Tryz.prog.info? 419).map (·.size) = some 4 := by kernel_rfl
theorem ints_one (xs : List Int) : ∀ v ∈ ints xs, v.oneCell' = true := by
  intro v hv
  simp only [ints, List.mem_map] at hv
  obtain ⟨x, -, rfl⟩ := hv
  rfl
set_option maxRecDepth 100000 in
theorem row_any {w : World} {g o c : Nat} {xs : List Int} (hr : w.rangeAt g o (ints xs)) (hx : xs.length = 20) (hc : 20 ≤ c) (hm : c ≤ maxLen) (i : Nat) (hi : i < 4) :
    Calls Tryz.prog 311 #[.slice (some ⟨g, o, none⟩) 20 c, .int .i64 (i : Int)] w fun e w' => e = .returned (.agg (ints (rowI xs i)).toArray) ∧ Below w.heap.size w w' := by
  have hr2 : w.rangeAt g (o + (4 + 4 * i)) (ints (rowI xs i)) := fun j v hv => by
    have hj := (List.getElem?_eq_some_iff.1 hv).1
    rw [ints, List.length_map, rowI_len hx hi] at hj
    rw [Nat.add_assoc]
    refine hr _ v ?_
    rw [← hv, ints, ints, List.getElem?_map, List.getElem?_map, rowI, List.getElem?_take, if_pos hj, List.getElem?_drop]
  have hl : (ints (rowI xs i)).length = 4 := by rw [ints, List.length_map, rowI_len hx hi]
  have hsz : (Tryz.prog.info? 419).map (·.size) = some (ints (rowI xs i)).length := by rw [hl]; exact infoEy
  have h1 := ints_one (rowI xs i)
  have hat := fun (w : World) (a : Option Addr) (cc : Nat) => run_arrayAt (P := Tryz.prog) w 419 3 4 a (8 + 4 * i - (4 + 4 * i)) cc Tryz.underlying419 (by omega)
  unfold maxLen at hm
  have b1 : (i : Int) < 4 := by omega
  have b2 : (0 : Int) ≤ (i : Int) := by omega
  have b3 : (4 : Int) + 4 * (i : Int) ≤ 8 + 4 * (i : Int) := by omega
  have b4 : (8 : Int) + 4 * (i : Int) ≤ (c : Int) := by omega
  have e1 : ((4 : Int) + 4 * (i : Int)).toNat = 4 + 4 * i := by omega
  have e2 : ((8 : Int) + 4 * (i : Int)).toNat = 8 + 4 * i := by omega
  have hne : ¬ c = 4 + 4 * i := by omega
  have hrA := World.rangeAt_alloc hr2 (.cells #[.int .i64 0, .int .i64 0, .int .i64 0, .int .i64 0] 419)
  generalize ints (rowI xs i) = L at *
  have H := Lib.hid (And.intro hl (And.intro hsz h1))
  clear hr hx hl h1 hr2 hsz
  go_enter Tryz.func311, Tryz.ntmps311
  go_wp2_with (first
    | refine wpList_load_mid rfl _ _ rfl _ _ rfl _ _ hrA Tryz.underlying419 rfl H.out.2.1 ?_
    | (refine wpList_store_new rfl _ _ _ rfl _ _ _ rfl rfl (by rw [H.out.1]; rfl) H.out.2.1 H.out.2.2 ?_)
    | fail)
  exact bodyPost_ret (results_mid1 rfl _ _ w.heap.size 0 L _ rfl (range_of_block (heap_alloc_last w _ rfl)) Tryz.underlying419 rfl H.out.2.1) rfl ⟨rfl, (Below.refl _ w).alloc (Nat.le_refl _) _⟩
set_option maxRecDepth 100000 in
set_option maxHeartbeats 2000000 in
theorem ents_any {w : World} {g o c : Nat} {xs : List Int} (hr : w.rangeAt g o (ints xs)) (hx : xs.length = 20) (hc : 20 ≤ c) (hm : c ≤ maxLen) :
    Calls Tryz.prog 309 #[.slice (some ⟨g, o, none⟩) 20 c] w fun e w' => e = .returned (.bool (entsB xs)) ∧ Below w.heap.size w w' := by
  have hgl : g < w.heap.size := World.block_lt_of_cell? w _ (ints_range hr (i := 0) (by omega))
  have H := Lib.hid (And.intro hr (And.intro hx (And.intro hc hm)))
  clear hr hx hc hm
  go_enter Tryz.func309, Tryz.ntmps309
  go_wp2
  go_step3
  go_wp2_with fail
  refine (within_ok).mono ?_
  rintro e w1 ⟨rfl, rfl⟩
  have hrb : (w.alloc (.cells (bndC bndE).toArray 219)).rangeAt w.heap.size 0 (bndC bndE) := range_of_block (heap_alloc_last w _ rfl)
  have hz1 : (w.alloc (.cells (bndC bndE).toArray 219)).heap.size = w.heap.size + 1 := by simp
  have hBnd : Bnd ((w.alloc (.cells #[.int .i64 0, .int .i64 4095, .int .i64 0, .int .i64 1023, .int .i64 0, .int .i64 1, .int .i64 0, .int .i64 4294967295] 219)).alloc (.cells #[.slice (some ⟨w.heap.size, 0, none⟩) 4 4] 321)) (.func (.func 196) #[] #[.pointer (some ⟨w.heap.size + 1, 0, none⟩)]) bndE := by
    have := Bnd.made (c := 4) hrb
    rw [hz1] at this
    exact this
  have hb2 : Below w.heap.size w ((w.alloc (.cells #[.int .i64 0, .int .i64 4095, .int .i64 0, .int .i64 1023, .int .i64 0, .int .i64 1, .int .i64 0, .int .i64 4294967295] 219)).alloc (.cells #[.slice (some ⟨w.heap.size, 0, none⟩) 4 4] 321)) := ((Below.refl _ w).alloc (Nat.le_refl _) _).alloc (by simp) _
  clear hrb hz1
  go_wp2
  go_step3
  go_wp2
  generalize (w.alloc (.cells #[.int .i64 0, .int .i64 4095, .int .i64 0, .int .i64 1023, .int .i64 0, .int .i64 1, .int .i64 0, .int .i64 4294967295] 219)).alloc (.cells #[.slice (some ⟨w.heap.size, 0, none⟩) 4 4] 321) = w2 at *
  have HB := Lib.hid (And.intro hBnd hb2)
  clear hBnd hb2
  go_loopw [4, 13] (fun s4 s13 wr => ∃ k : Nat, k ≤ 4 ∧ s13 = .int .i64 k ∧ s4 = .bool true ∧ (List.range k).all (entB xs) = true ∧ Below w.heap.size w wr ∧ Bnd wr (.func (.func 196) #[] #[.pointer (some ⟨w.heap.size + 1, 0, none⟩)]) bndE) (fun _ s13 _ => 4 - (intOf s13).toNat)
  case atStart => exact ⟨0, by omega, rfl, rfl, by simp, HB.out.2, HB.out.1⟩
  case round =>
    obtain ⟨k, hk, rfl, rfl, hall, hb, hBn⟩ := hrel
    have HA := Lib.hid (And.intro hall (And.intro hb hBn))
    by_cases hlt : k < 4
    · have hnext : Hid (∀ b, entB xs k = b → (List.range (k + 1)).all (entB xs) = b) := fun b hb => by
        rw [List.range_succ, List.all_append, HA.out.1]; simp [hb]
      have hstop : Hid (entB xs k = false → entsB xs = false) := fun hb => by
        unfold entsB
        rw [← Bool.not_eq_true]
        intro e
        rw [List.all_eq_true] at e
        have := e k (by simp; omega)
        rw [hb] at this; cases this
      have hxl := H.out.2.1
      obtain ⟨x3, hx3⟩ : ∃ x3, xs.getD 3 0 = x3 := ⟨_, rfl⟩
      have c3 : wr.cell? ⟨g, o + 3, none⟩ = some (.int .i64 x3) := by
        have := ints_range (Below.range hb H.out.1) (i := 3) (by omega)
        rw [this, ← hx3]
        simp [List.getD_eq_getElem?_getD, show 3 < xs.length by omega]
      have b1 : (0 : Int) ≤ (k : Int) := by omega
      have b2 : (k : Int) < 4 := by omega
      have hcc := H.out.2.2.1
      have hcm := H.out.2.2.2
      unfold maxLen at hcm
      have hrl : Hid ((rowI xs k).length = 4) := rowI_len hxl hlt
      have hsz : (Tryz.prog.info? 419).map (·.size) = some (ints (rowI xs k)).length := by rw [ints, List.length_map, hrl.out]; exact infoEy
      have h1 := ints_one (rowI xs k)
      have hRow := Lib.hid (row_any (Below.range hb H.out.1) hxl hcc H.out.2.2.2 k hlt)
      have HS := Lib.hid (And.intro hsz h1)
      have hent : Hid (entB xs k = if (k : Int) < x3 then withinB bndE (rowI xs k) else decide (rowI xs k = [0, 0, 0, 0])) := by show _ = _; rw [entB, hx3]
      clear hx3 hall hb hBn hxl hsz h1
      by_cases h3 : (k : Int) < x3
      · have q3 : decide ((k : Int) < x3) = true := by simpa using h3
        have hent2 : Hid (entB xs k = withinB bndE (rowI xs k)) := by show _ = _; rw [hent.out, if_pos h3]
        clear hent h3
        obtain ⟨bb, hbb⟩ : ∃ bb, withinB bndE (rowI xs k) = bb := ⟨_, rfl⟩
        have HBB := Lib.hid hbb
        cases bb
        all_goals
          clear hbb
          go_wp2_with fail
          refine hRow.out.mono ?_
          rintro e wa ⟨rfl, hba⟩
          have hra : (wa.alloc (.cells (ints (rowI xs k)).toArray 419)).rangeAt wa.heap.size 0 (ints (rowI xs k)) := range_of_block (heap_alloc_last wa _ rfl)
          have hua : Upd (fun _ => False) wr (wa.alloc (.cells (ints (rowI xs k)).toArray 419)) := (Upd.of_below hba).alloc _
          have hBa := HA.out.2.2.below (Upd.below hua)
          have c3a := hua.cellv c3 (fun h => h)
          have hbw : Below w.heap.size w (wa.alloc (.cells (ints (rowI xs k)).toArray 419)) := HA.out.2.1.trans ((Upd.below hua).mono HA.out.2.1.size)
          have HW := Lib.hid (And.intro hra (And.intro hBa hbw))
          clear hra hua hBa hbw hba
          go_wp2_with (first
            | (refine wpList_store_new rfl _ _ _ rfl _ _ _ rfl rfl (by rw [ints, List.length_map, hrl.out]; rfl) HS.out.1 HS.out.2 ?_)
            | fail)
          obtain ⟨gB, hB', cB, hvB, hcB, hrB⟩ := HW.out.2.1
          injection hvB with _ _ hvB
          injection hvB with hvB
          injection hvB with hvB
          injection hvB with hvB
          injection hvB with hvB
          injection hvB with hvB
          subst hvB
          refine (within_any bndE (rowI xs k) hcB hrB HW.out.1 hrl.out (by show 4 ≤ 4; decide) (by decide)).mono ?_
          rw [HBB.out]
          rintro e wb ⟨rfl, hbb⟩
          have hbw : Below w.heap.size w wb := HW.out.2.2.trans (hbb.mono HW.out.2.2.size)
          have hBb := HW.out.2.1.below hbb
          have HV := Lib.hid (And.intro hbw hBb)
          clear hbw hBb hbb hcB hrB
          go_wp2
        · rw [Exit.noGoto_ret]
          go_ret
          exact ⟨by rw [hstop.out (by rw [hent2.out, HBB.out])]; rfl, HV.out.1⟩
        · go_roundw
          case rel => exact ⟨k + 1, by omega, by go_num, rfl, hnext.out true (by rw [hent2.out, HBB.out]), HV.out.1, HV.out.2⟩
          case measure => simp [intOf]; omega
      · have q3 : decide ((k : Int) < x3) = false := by simpa using h3
        have hent2 : Hid (entB xs k = (rowI xs k == [0, 0, 0, 0])) := by show _ = _; rw [hent.out, if_neg h3]; exact (Bool.beq_eq_decide_eq _ _).symm
        clear hent h3
        obtain ⟨bb, hbb⟩ : ∃ bb, (rowI xs k == [0, 0, 0, 0]) = bb := ⟨_, rfl⟩
        have HBB := Lib.hid hbb
        have heq : ∀ w, (binOp .eql 419 (.agg (ints (rowI xs k)).toArray) (.agg #[.int .i64 0, .int .i64 0, .int .i64 0, .int .i64 0])).run Tryz.prog w = .ok (.bool bb) w := fun w => by
          obtain ⟨i, hi, hs⟩ := Option.map_eq_some_iff.1 infoIn1
          simp only [Prod.mk.injEq] at hs
          rw [← hbb]
          exact run_eql_ints w 419 3 4 Tryz.underlying419 Tryz.underlying3 (fun w => by simp [sizeOf, typeInfo, hi, hs.2.1]) (rowI xs k) [0, 0, 0, 0] hrl.out rfl
        cases bb
        all_goals
          clear hbb
          go_wp2_with fail
          refine hRow.out.mono ?_
          rintro e wa ⟨rfl, hba⟩
          have hra : (wa.alloc (.cells (ints (rowI xs k)).toArray 419)).rangeAt wa.heap.size 0 (ints (rowI xs k)) := range_of_block (heap_alloc_last wa _ rfl)
          have hua : Upd (fun _ => False) wr (wa.alloc (.cells (ints (rowI xs k)).toArray 419)) := (Upd.of_below hba).alloc _
          have hBa := HA.out.2.2.below (Upd.below hua)
          have c3a := hua.cellv c3 (fun h => h)
          have hbw : Below w.heap.size w (wa.alloc (.cells (ints (rowI xs k)).toArray 419)) := HA.out.2.1.trans ((Upd.below hua).mono HA.out.2.1.size)
          have HW := Lib.hid (And.intro hra (And.intro hBa hbw))
          clear hua hBa hbw hba
          go_wp2_with (first
            | (refine wpList_store_new rfl _ _ _ rfl _ _ _ rfl rfl (by rw [ints, List.length_map, hrl.out]; rfl) HS.out.1 HS.out.2 ?_)
            | (refine wpList_load_mid rfl _ _ rfl _ _ rfl _ _ hra Tryz.underlying419 rfl HS.out.1 ?_)
            | fail)
        · rw [Exit.noGoto_ret]
          go_ret
          exact ⟨by rw [hstop.out (by rw [hent2.out, HBB.out])]; rfl, HW.out.2.2⟩
        · go_roundw
          case rel => exact ⟨k + 1, by omega, by go_num, rfl, hnext.out true (by rw [hent2.out, HBB.out]), HW.out.2.2, HW.out.2.1⟩
          case measure => simp [intOf]; omega
    · obtain rfl : k = 4 := by omega
      have hE : Hid (entsB xs = true) := hall
      have HZ := Lib.hid hb
      clear hall hb hBn
      go_wp2
      rw [Exit.noGoto_ret]
      go_ret
      exact ⟨by rw [hE.out]; rfl, HZ.out⟩
end Go.Proofs.YtfhfbpmlnjdfoaaGreatDoor
