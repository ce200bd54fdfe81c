/- 'slices.Repeat' of one place; 'math/bits.Mul'. The index: contracts of the code's functions. Sums of bytes, bytes of numbers: the plain law; what bits of numbers come to. The sum of bytes: stepper, Sum. Plan of an admissible superblock, Need. A cache in memory: a struct, and eight things that do not share a block. -/
import Derived.Test.YtfhfbpmlnjdfoaaGreatDoorG03
import Derived.Laws.CopyRow
import Derived.Shelf.Bits.Mul64
import Derived.StillTailTactics
import Derived.Test.YtfhfbpmlnjdfoaaGreatDoorG04
import Derived.Deep.RegionHeld3
import Derived.Test.YtfhfbpmlnjdfoaaGreatDoorG01
import Derived.Laws.Bits64b
import Derived.BigQuiet
import Derived.Deep.QuietTactic
import Derived.Test.YtfhfbpmlnjdfoaaGreatDoorG05
namespace Go.Proofs.YtfhfbpmlnjdfoaaGreatDoor
open Go Go.RowKit
theorem mul64 (x y : Nat) (hx : x < 18446744073709551616) (hy : y < 18446744073709551616) (w : World) :
    Calls Tryz.prog 318 #[.int .u64 x, .int .u64 y] w fun e w' => e = .returned (.tuple #[.int .u64 ((x * y / 18446744073709551616 : Nat) : Int), .int .u64 ((x * y % 18446744073709551616 : Nat) : Int)]) ∧ w' = w := by
  obtain ⟨bd, bt, bw, hhi⟩ := Lib.mul64_hi x y hx hy
  have ba := Lib.half_mul_le (a := x / 4294967296) (b := y / 4294967296) (by omega) (by omega)
  have bb := Lib.half_mul_le (a := x / 4294967296) (b := y % 4294967296) (by omega) (by omega)
  have bc := Lib.half_mul_le (a := x % 4294967296) (b := y / 4294967296) (by omega) (by omega)
  have ba' : x / 4294967296 * (y / 4294967296) < 18446744073709551616 := by omega
  have bb' : x / 4294967296 * (y % 4294967296) < 18446744073709551616 := by omega
  have bc' : x % 4294967296 * (y / 4294967296) < 18446744073709551616 := by omega
  have bh1 : x / 4294967296 * (y / 4294967296) + (x / 4294967296 * (y % 4294967296) + x % 4294967296 * (y % 4294967296) / 4294967296) / 4294967296 < 18446744073709551616 := by omega
  have bh : x / 4294967296 * (y / 4294967296) + (x / 4294967296 * (y % 4294967296) + x % 4294967296 * (y % 4294967296) / 4294967296) / 4294967296 + ((x / 4294967296 * (y % 4294967296) + x % 4294967296 * (y % 4294967296) / 4294967296) % 4294967296 + x % 4294967296 * (y / 4294967296)) / 4294967296 < 18446744073709551616 := by omega
  go_enter Tryz.func318, Tryz.ntmps318
  go_wp2
  simp only [Mul64.maskN x hx, Mul64.maskN y hy, Mul64.divN, Mul64.mulN, Mul64.addN, Mul64.wrapN _ bd, Mul64.wrapN _ bb', Mul64.wrapN _ bt, Mul64.maskN _ bt, Mul64.wrapN _ bc', Mul64.wrapN _ bw, Mul64.wrapN _ ba', Mul64.wrapN _ bh1, Mul64.wrapN _ bh, Mul64.wrapM (x * y)]
  rw [hhi]
  go_ret2
  exact ⟨rfl, rfl⟩
theorem mul (x y : Nat) (hx : x < 18446744073709551616) (hy : y < 18446744073709551616) (w : World) :
    Calls Tryz.prog 270 #[.int .u64 x, .int .u64 y] w fun e w' => e = .returned (.tuple #[.int .u64 ((x * y / 18446744073709551616 : Nat) : Int), .int .u64 ((x * y % 18446744073709551616 : Nat) : Int)]) ∧ w' = w := by
  go_enter Tryz.func270, Tryz.ntmps270
  go_wp2_with fail
  refine (mul64 x y hx hy w).mono ?_
  rintro e w' ⟨rfl, rfl⟩
  go_wp2
  go_ret2
  exact ⟨rfl, rfl⟩
section
variable {P : Program}
theorem run_copy_rowk (w : World) (dT sT ty elem : TypeId) (k g o dLen dCap : Nat) (a : Addr) (sLen sCap : Nat) (cur : Array Value) (t : TypeId) (cs : List Value)
    (hu : P.underlying dT = some (.slice elem)) (hs : (P.info? elem).map (·.size) = some k)
    (hg : w.heap[g]? = some (.cells cur t (0, 0))) (hn : cs.length = Nat.min sLen dLen * k)
    (hsrc : ∀ j v, cs[j]? = some v → w.cell? (a.add j) = some v) (hfit : o + cs.length ≤ cur.size) (h1 : ∀ v ∈ cs, v.oneCell' = true) :
    (Builtin.copy_ #[dT, sT] ty #[.slice (some ⟨g, o, none⟩) dLen dCap, .slice (some a) sLen sCap]).run P w =
      .ok (goInt (Nat.min sLen dLen : Nat)) (w.setRow g (cur.toList.take o ++ cs ++ cur.toList.drop (o + cs.length)).toArray) := by
  have hl := run_loadCells_list (P := P) w a cs hsrc
  have hst := run_storeCells_at P g o t cs 0 cur w hg (by simpa using hfit) h1
  cases hq : P.info? elem with
  | none => simp [hq] at hs
  | some i =>
    have hi : i.size = k := by simpa [hq] using hs
    rw [hn] at hl
    simp [Builtin.copy_, run_underlying hu, Builtin.lenOf, Builtin.firstCells, sizeOf, typeInfo, hq, hi, hl, hst]
theorem copy_rowk (w : World) (dT sT elem : TypeId) (k g o dLen dCap : Nat) (a : Addr) (sLen sCap : Nat) (cur : Array Value) (t : TypeId) (cs : List Value)
    (hu : P.underlying dT = some (.slice elem)) (hs : (P.info? elem).map (·.size) = some k)
    (hg : w.heap[g]? = some (.cells cur t (0, 0))) (hn : cs.length = Nat.min sLen dLen * k)
    (hsrc : ∀ j v, cs[j]? = some v → w.cell? (a.add j) = some v) (hfit : o + cs.length ≤ cur.size) (h1 : ∀ v ∈ cs, v.oneCell' = true) :
    ∃ w', (∀ ty, (Builtin.copy_ #[dT, sT] ty #[.slice (some ⟨g, o, none⟩) dLen dCap, .slice (some a) sLen sCap]).run P w = .ok (goInt (Nat.min sLen dLen : Nat)) w') ∧
      w'.heap[g]? = some (.cells (cur.toList.take o ++ (cs ++ cur.toList.drop (o + cs.length))).toArray t (0, 0)) ∧ Upd (fun j => j = g) w w' ∧ w'.heap.size = w.heap.size :=
  ⟨_, fun ty => run_copy_rowk w dT sT ty elem k g o dLen dCap a sLen sCap cur t cs hu hs hg hn hsrc hfit h1, by rw [← List.append_assoc]; exact setRow_heap w g cur _ t _ hg, ⟨rfl, rfl, rfl, by simp [World.setRow], fun k _ hk => setRow_other w g k _ (fun e => hk e)⟩, by simp [World.setRow]⟩
end
def noPl (n : Nat) : List Value := (List.replicate n ()).flatMap fun _ => [.int .i64 (-1), .bool false]
theorem noPl_len (n : Nat) : (noPl n).length = n * 2 := by
  have := length_flat (f := fun _ : Unit => [Value.int .i64 (-1), Value.bool false]) (k := 2) (fun _ => rfl) (List.replicate n ())
  rw [List.length_replicate] at this; exact this
theorem noPl_add (a b : Nat) : noPl (a + b) = noPl a ++ noPl b := by
  simp only [noPl]
  rw [← List.replicate_append_replicate, List.flatMap_append]
theorem infoPlace : (Tryz.prog.info? 95).map (fun i => (i.zero, i.size, i.bytes)) = some (some (.agg #[.int .i64 0, .bool false]), 2, 16) := by kernel_rfl
set_option maxRecDepth 100000 in
theorem repeat_ok (n : Nat) (gx : Nat) (w : World) (h1 : 1 ≤ n) (h2 : n ≤ 4096) (hx : w.heap[gx]? = some (.cells #[.int .i64 (-1), .bool false] 95)) :
    Calls Tryz.prog 201 #[.slice (some ⟨gx, 0, none⟩) 1 1, .int .i64 n] w fun e w' => e = .returned (.slice (some ⟨w.heap.size, 0, none⟩) n n) ∧
      w'.heap[w.heap.size]? = some (.cells (noPl n).toArray 95) ∧ Below w.heap.size w w' ∧ w'.heap.size = w.heap.size + 1 := by
  obtain ⟨i0, hi, hz0, hz1, hz2⟩ := info_parts infoPlace
  have hmk : ∀ w : World, ∃ zs : List Value, zs.length = n * 2 ∧ (Instr.makeSlice 283 (.int .i64 n) (.int .i64 n)).run Tryz.prog w = .ok (.slice (some ⟨w.heap.size, 0, none⟩) n n) (w.alloc (.cells zs.toArray 95)) := by
    intro w
    have := run_make (P := Tryz.prog) w 283 95 i0 (.agg #[.int .i64 0, .bool false]) Tryz.underlying283 hi hz0 .i64 .i64 n n (by omega) (by omega) (by rw [hz2]; omega) (by omega)
    refine ⟨(madeCells #[.int .i64 0, .bool false] (n * 2)).toList, by simp [size_madeCells], ?_⟩
    rw [this]
    simp [hz1, Value.cells]
  obtain ⟨zs, hzl, hrun⟩ := hmk w
  have hn0 : ¬ (n : Int) < 0 := by omega
  clear hi hz0 hz1 hz2 hmk
  go_enter Tryz.func201, Tryz.ntmps201
  go_wp2_with fail
  refine (mul 1 n (by decide) (by omega) _).mono ?_
  rintro e w' ⟨rfl, rfl⟩
  rw [show 1 * n / 18446744073709551616 = 0 by omega, show 1 * n % 18446744073709551616 = n by omega]
  have hgx := lt_of_block hx
  have hA : (w'.alloc (.cells zs.toArray 95)).heap[w'.heap.size]? = some (.cells zs.toArray 95) := heap_alloc_last _ _ rfl
  have hxA : (w'.alloc (.cells zs.toArray 95)).heap[gx]? = some (.cells #[.int .i64 (-1), .bool false] 95) := (Below.heap_alloc _ _ _ hgx).trans hx
  have hS : (Tryz.prog.info? 95).map (·.size) = some 2 := by kernel_rfl
  have HA := Lib.hid hA; have HX := Lib.hid hxA; have HRUN := Lib.hid hrun
  clear hA hxA hx
  have hmn : Nat.min 1 n = 1 := Nat.min_eq_left h1
  have e1 : ([.int .i64 (-1), .bool false] : List Value).length = Nat.min 1 n * 2 := by rw [hmn]; rfl
  have e2 : ∀ (j : Nat) (v : Value), ([.int .i64 (-1), .bool false] : List Value)[j]? = some v → (w'.alloc (.cells zs.toArray 95)).cell? ((⟨gx, 0, none⟩ : Addr).add j) = some v := fun j v hj => by rw [Addr.add_lit, cell_of_block HX.out]; simpa using hj
  have e3 : 0 + ([.int .i64 (-1), .bool false] : List Value).length ≤ zs.toArray.size := by simp; omega
  obtain ⟨w2, hcp, hg2, hu2, hz2⟩ := copy_rowk (P := Tryz.prog) (w'.alloc (.cells zs.toArray 95)) 283 283 95 2 w'.heap.size 0 n n ⟨gx, 0, none⟩ 1 1 zs.toArray 95 [.int .i64 (-1), .bool false] Tryz.underlying283 hS HA.out e1 e2 e3 (by simp [Value.oneCell'])
  rw [hmn] at hcp
  clear e1 e2 e3
  have hg3 : w2.heap[w'.heap.size]? = some (.cells (noPl 1 ++ zs.drop 2).toArray 95) := by rw [hg2]; rfl
  have hB2 : Below w'.heap.size w' w2 := below_upd ((Below.refl _ _).alloc (Nat.le_refl _) _) hu2 (Nat.le_refl _) (fun j e => by omega)
  have hz3 : w2.heap.size = w'.heap.size + 1 := by rw [hz2]; simp
  clear hg2 hu2 hz2
  go_wp2
  clear hcp HX HRUN hrun
  go_loopg [8] (n - 1) (fun q i wr => ∃ (k : Nat) (rest : List Value), 1 ≤ k ∧ k ≤ n ∧ q = n - k ∧ i = .int .i64 k ∧ rest.length = (n - k) * 2 ∧ wr.heap[w'.heap.size]? = some (.cells (noPl k ++ rest).toArray 95) ∧ Below w'.heap.size w' wr ∧ wr.heap.size = w'.heap.size + 1)
  case atStart => exact ⟨1, zs.drop 2, by omega, h1, rfl, rfl, by simp; omega, hg3, hB2, hz3⟩
  case round =>
    clear hg3 hB2 hz3
    obtain ⟨k, rest, hk1, hkn, rfl, rfl, hrl, hg, hb, hz⟩ := hrel
    by_cases hlt : k < n
    · have hkk : noPl k = noPl (Nat.min k (n - k)) ++ noPl (k - Nat.min k (n - k)) := by rw [← noPl_add]; congr 1; have := Nat.min_le_left k (n - k); show k = min k (n - k) + _; have : min k (n - k) ≤ k := Nat.min_le_left _ _; show k = min k (n-k) + (k - min k (n-k)); omega
      obtain ⟨w3, hcp, hg4, hu4, hz4⟩ := copy_rowk (P := Tryz.prog) wr.drew 283 283 95 2 w'.heap.size (k * 2) (n - k) (n - k) ⟨w'.heap.size, 0, none⟩ k n (noPl k ++ rest).toArray 95 (noPl (Nat.min k (n - k))) Tryz.underlying283 hS hg (by rw [noPl_len])
        (fun j v hj => by
          rw [Addr.add_lit, cell_of_block (w := wr.drew) hg]
          have hjl := (List.getElem?_eq_some_iff.1 hj).1
          rw [hkk]
          simp only [List.getElem?_toArray, Nat.zero_add, List.append_assoc]
          rw [List.getElem?_append_left hjl]; exact hj)
        (by rw [noPl_len]; simp only [List.size_toArray, List.length_append, noPl_len, hrl]; have : Nat.min k (n - k) ≤ n - k := Nat.min_le_right _ _; omega) (by intro v hv; simp only [noPl, List.mem_flatMap] at hv; obtain ⟨_, _, hv⟩ := hv; simp at hv; rcases hv with rfl | rfl <;> simp [Value.oneCell'])
      go_wp2
      go_region
      obtain ⟨c, hce⟩ : ∃ c, c = Nat.min k (n - k) := ⟨_, rfl⟩
      rw [← hce] at hkk hg4
      have hc1 : 1 ≤ c := by rw [hce]; exact Nat.le_min.2 ⟨hk1, by omega⟩
      have hc2 : c ≤ n - k := by rw [hce]; exact Nat.min_le_right _ _
      have hg5 : w3.heap[w'.heap.size]? = some (.cells (noPl (k + c) ++ rest.drop (c * 2)).toArray 95) := by
        rw [hg4, noPl_add]
        have e1 : (noPl k ++ rest).toArray.toList.take (k * 2) = noPl k := by simp [noPl_len]
        have e2 : (noPl k ++ rest).toArray.toList.drop (k * 2 + (noPl c).length) = rest.drop (c * 2) := by
          rw [noPl_len]; show (noPl k ++ rest).drop (k * 2 + c * 2) = _
          rw [List.drop_append, noPl_len, List.drop_eq_nil_of_le (by rw [noPl_len]; omega)]
          simp
        rw [e1, e2, List.append_assoc]
      have hb3 : Below w'.heap.size w' w3 := below_upd hb (((Upd.refl _ wr).drew).trans hu4) (Nat.le_refl _) (fun j e => by omega)
      have hz5 : w3.heap.size = w'.heap.size + 1 := by rw [hz4]; exact hz
      rw [← hce]
      clear hg4 hu4 hz4 hg hb hz hcp hkk hce
      have hkc : k + c ≤ 4096 := by omega
      have hkc' : ∀ x : Int, x = (k : Int) + c → wrap64 x = ((k + c : Nat) : Int) := by intro x hx; subst hx; unfold wrap64; omega
      go_wp2
      go_roundg (n - (k + c))
      case measure => omega
      case rel => exact ⟨k + c, rest.drop (c * 2), by omega, by omega, rfl, by rw [hkc' _ rfl], by simp; omega, hg5, hb3, hz5⟩
    · obtain rfl : k = n := by omega
      obtain rfl : rest = [] := List.eq_nil_of_length_eq_zero (by omega)
      rw [List.append_nil] at hg
      go_wp2
      go_ret
      exact ⟨rfl, hg, hb, hz⟩
abbrev placeV (s : Int) (d : Bool) : Value := .agg #[.int .i64 s, .bool d]
theorem nowhere_ok (w : World) : Calls Tryz.prog 173 #[] w fun e w' => e = .returned (placeV (-1) false) ∧ Upd (fun _ => False) w w' ∧ w'.heap.size = w.heap.size + 1 := by
  go_enter Tryz.func173, Tryz.ntmps173
  go_wp2
  have hA := heap_alloc_last w (.cells #[.int .i64 (-1), .bool false] 95) rfl
  have c0 := cell_of_block hA 0
  have c1 := cell_of_block hA 1
  simp at c0 c1
  refine bodyPost_ret (v := placeV (-1) false) ?_ rfl ⟨rfl, (Upd.refl _ _).alloc _, by simp⟩
  simp [results, Tryz.results173, go_sem]
def plC (l : List (Int × Bool)) : List Value := l.flatMap fun p => [.int .i64 p.1, .bool p.2]
theorem plC_len (l : List (Int × Bool)) : (plC l).length = l.length * 2 := length_flat (f := fun p : Int × Bool => [Value.int .i64 p.1, Value.bool p.2]) (k := 2) (fun _ => rfl) l
theorem plC_at {l : List (Int × Bool)} {k : Nat} (h : k < l.length) : (plC l)[k * 2]? = some (.int .i64 l[k].1) ∧ (plC l)[k * 2 + 1]? = some (.bool l[k].2) :=
  ⟨flat_at (f := fun p : Int × Bool => [Value.int .i64 p.1, Value.bool p.2]) (k := 2) (fun _ => rfl) l k 0 (by decide) l[k] (List.getElem?_eq_getElem h),
   flat_at (f := fun p : Int × Bool => [Value.int .i64 p.1, Value.bool p.2]) (k := 2) (fun _ => rfl) l k 1 (by decide) l[k] (List.getElem?_eq_getElem h)⟩
theorem noPl_plC (n : Nat) : noPl n = plC (List.replicate n (-1, false)) := by
  induction n with
  | zero => rfl
  | succ n ih => rw [Nat.add_comm n 1, noPl_add, ih, ← List.replicate_append_replicate]; simp [plC, noPl]
structure IndexAt (w : World) (b : Nat) (v : Value) (mb N : Nat) (ps : List (Int × Bool)) (slots : Nat) : Prop where
  str : w.heap[b]? = some (.cells #[v, .map (some mb), .int .i64 slots] 285 (0, 0))
  sl : Sl w 95 2 v ps.length (plC ps)
  map : MapAt w mb N (atOf ps)
  good : Good ps slots
  ne : v.ownBlock ≠ some b
  nm : mb ≠ b
  nv : v.ownBlock ≠ some mb
  le : ps.length ≤ 4096
  sl1 : slots ≤ 1024
def ixS (v : Value) (mb : Nat) : Nat → Prop := fun j => v.ownBlock = some j ∨ j = mb
theorem IndexAt.keep {w w' : World} {b mb N : Nat} {v : Value} {ps : List (Int × Bool)} {slots : Nat} (h : IndexAt w b v mb N ps slots) {S : Nat → Prop} (hu : Upd S w w') (hb : ¬ S b) (hs : ∀ j, ixS v mb j → ¬ S j) : IndexAt w' b v mb N ps slots :=
  { str := (hu.block _ (lt_of_block h.str) hb).trans h.str, sl := h.sl.keep hu (fun g hg => hs g (.inl hg)), map := h.map.keep hu (hs mb (.inr rfl)), good := h.good, ne := h.ne, nm := h.nm, nv := h.nv, le := h.le, sl1 := h.sl1 }
theorem IndexAt.below {w w' : World} {b mb N : Nat} {v : Value} {ps : List (Int × Bool)} {slots : Nat} (h : IndexAt w b v mb N ps slots) (hb : Below w.heap.size w w') : IndexAt w' b v mb N ps slots :=
  h.keep (Upd.of_below (S := fun _ => False) hb) (fun h => h) (fun _ _ h => h)
theorem IndexAt.mono {w : World} {b mb N N' : Nat} {v : Value} {ps : List (Int × Bool)} {slots : Nat} (h : IndexAt w b v mb N ps slots) (hn : N ≤ N') : IndexAt w b v mb N' ps slots := { h with map := h.map.mono hn }
theorem IndexAt.blt {w : World} {b mb N : Nat} {v : Value} {ps : List (Int × Bool)} {slots : Nat} (h : IndexAt w b v mb N ps slots) : b < w.heap.size := lt_of_block h.str
theorem IndexAt.slt {w : World} {b mb N : Nat} {v : Value} {ps : List (Int × Bool)} {slots : Nat} (h : IndexAt w b v mb N ps slots) : ∀ j, ixS v mb j → j < w.heap.size := by
  rintro j (hj | rfl)
  · exact h.sl.lt hj
  · exact h.map.lt
set_option maxRecDepth 100000 in
theorem inew_ok (n s : Nat) (w : World) (h1 : 1 ≤ n) (h2 : n ≤ 4096) (h3 : 1 ≤ s) (h4 : s ≤ 1024) :
    Calls Tryz.prog 132 #[.int .i64 n, .int .i64 s] w fun e w' => ∃ b v mb, e = .returned (.tuple #[.pointer (some ⟨b, 0, none⟩), .int .i64 0]) ∧
      IndexAt w' b v mb 0 (List.replicate n (-1, false)) s ∧ w.heap.size ≤ b ∧ w.heap.size ≤ mb ∧ From w.heap.size v ∧ Below w.heap.size w w' := by
  have hmm := @run_makeMap Tryz.prog
  go_enter Tryz.func132, Tryz.ntmps132
  go_wp2_with fail
  refine (nowhere_ok _).mono ?_
  rintro e w1 ⟨rfl, hu1, hz1⟩
  have hx : (w1.alloc (.cells #[.int .i64 (-1), .bool false] 95)).heap[w.heap.size + 1]? = some (.cells #[.int .i64 (-1), .bool false] 95) := heap_alloc_last _ _ hz1.symm
  have HX := Lib.hid hx
  clear hx
  go_wp2_with fail
  refine (repeat_ok n (w.heap.size + 1) _ h1 h2 HX.out).mono ?_
  rintro e w2 ⟨rfl, hg2, hb2, hz2⟩
  have hz2' : w2.heap.size = w.heap.size + 3 := by rw [hz2]; simp [hz1]
  have hB2 : Below w.heap.size w w2 := (below_upd (Below.refl _ w) (hu1.alloc (.cells #[.int .i64 (-1), .bool false] 95)) (Nat.le_refl _) (fun _ h => h.elim)).trans (hb2.mono (by simp [hz1]; omega))
  have HG := Lib.hid hg2
  have HB := Lib.hid hB2
  clear hg2 hB2 hb2 hz2
  go_wp2
  go_ret2
  have hM := Upd.alloc (Upd.refl (fun _ => False) w2) (.map #[] 0)
  have hg2 : w2.heap[w.heap.size + 2]? = some (.cells (noPl n).toArray 95) := by have := HG.out; simpa [hz1] using this
  have hsl : Sl w2 95 2 (.slice (some ⟨w.heap.size + 2, 0, none⟩) n n) (List.replicate n ((-1 : Int), false)).length (plC (List.replicate n (-1, false))) := by
    rw [← noPl_plC]
    refine ⟨by rw [noPl_len]; simp, .inr ⟨w.heap.size + 2, 0, n, (noPl n).toArray, by simp, hg2, by simp, by unfold maxLen; omega, by simp [noPl_len], fun j u hj => by simpa using hj⟩⟩
  have hmap : MapAt (w2.alloc (.map #[] 0)) (w.heap.size + 3) 0 (atOf (List.replicate n (-1, false))) := by
    have := MapAt.made w2
    rw [hz2'] at this; rw [atOf_start]; exact this
  refine ⟨w.heap.size + 3 + 1, .slice (some ⟨w.heap.size + 2, 0, none⟩) n n, w.heap.size + 3, rfl, ⟨heap_alloc_last _ _ (by simp [hz2']), ?_, hmap.keep (Upd.alloc (Upd.refl (fun _ => False) _) _) (fun h => h), Good.start n s, by simp [Value.ownBlock], by omega, by simp [Value.ownBlock], by simp; omega, h4⟩, by omega, by omega, ?_, ?_⟩
  · exact hsl.keep (hM.alloc _) (fun _ _ h => h)
  · intro g hg; simp [Value.ownBlock] at hg; omega
  · exact below_upd HB.out (hM.alloc _) (Nat.le_refl _) (fun _ h => h.elim)
def getV (ps : List (Int × Bool)) (b : Int) : Int × Bool := if b < 0 ∨ (ps.length : Int) ≤ b then (0, false) else if ps.getD b.toNat (-1, false) = (-1, false) then (0, false) else ps.getD b.toNat (-1, false)
def getC (ps : List (Int × Bool)) (b : Int) : Int := if b < 0 ∨ (ps.length : Int) ≤ b then 10 else if ps.getD b.toNat (-1, false) = (-1, false) then 14 else 0
theorem get_out {w : World} {b mb N : Nat} {v : Value} {ps : List (Int × Bool)} {slots : Nat} (h : IndexAt w b v mb N ps slots) (k : Int) (ho : k < 0 ∨ (ps.length : Int) ≤ k) :
    Calls Tryz.prog 100 #[.pointer (some ⟨b, 0, none⟩), .int .i64 k] w fun e w' => e = .returned (.tuple #[placeV 0 false, .int .i64 10]) ∧ Below w.heap.size w w' := by
  have hu : Upd (fun _ => False) w (w.alloc (.cells #[.int .i64 0, .bool false] 95)) := (Upd.refl _ _).alloc _
  have hc0 := (hu.cellAt (o := 0) (lt_of_block h.str) (fun h => h)).trans (cell_of_block h.str 0)
  simp at hc0
  have hle := h.le
  have hA := heap_alloc_last w (.cells #[.int .i64 0, .bool false] 95) rfl
  have c0 := cell_of_block hA 0
  have c1 := cell_of_block hA 1
  simp at c0 c1
  have C0 := Lib.hid c0; have C1 := Lib.hid c1
  clear hA c0 c1
  obtain ⟨ao, c, rfl⟩ := h.sl.rd.nil_iff
  clear h
  by_cases h0 : k < 0
  · clear ho
    go_enter Tryz.func100, Tryz.ntmps100
    go_wp2
    refine bodyPost_ret (v := .tuple #[placeV 0 false, .int .i64 10]) ?_ rfl ⟨rfl, (Below.refl _ _).alloc (Nat.le_refl _) _⟩
    simp [results, Tryz.results100, go_sem]
  · have h1 : (ps.length : Int) ≤ k := by omega
    clear ho
    go_enter Tryz.func100, Tryz.ntmps100
    go_wp2
    refine bodyPost_ret (v := .tuple #[placeV 0 false, .int .i64 10]) ?_ rfl ⟨rfl, (Below.refl _ _).alloc (Nat.le_refl _) _⟩
    simp [results, Tryz.results100, go_sem]
theorem IndexAt.at {w : World} {b mb N : Nat} {v : Value} {ps : List (Int × Bool)} {slots : Nat} (h : IndexAt w b v mb N ps slots) {k : Nat} (hk : k < ps.length) :
    ∃ g off cap, v = .slice (some ⟨g, off, none⟩) ps.length cap ∧ g < w.heap.size ∧ w.cell? ⟨g, off + k * 2, none⟩ = some (.int .i64 ps[k].1) ∧ w.cell? ⟨g, off + k * 2 + 1, none⟩ = some (.bool ps[k].2) := by
  obtain ⟨g, off, cap, cur, rfl, hg, _, hc⟩ := h.sl.at (by omega)
  exact ⟨g, off, cap, rfl, lt_of_block hg, by rw [cell_of_block hg]; exact hc _ _ (plC_at hk).1, by rw [cell_of_block hg]; exact hc (k * 2 + 1) _ (plC_at hk).2⟩
theorem get_some {w : World} {b mb N : Nat} {v : Value} {ps : List (Int × Bool)} {slots : Nat} (h : IndexAt w b v mb N ps slots) (k : Nat) (hk : k < ps.length) (hp : ps[k].1 ≠ -1) :
    Calls Tryz.prog 100 #[.pointer (some ⟨b, 0, none⟩), .int .i64 k] w fun e w' => e = .returned (.tuple #[placeV ps[k].1 ps[k].2, .int .i64 0]) ∧ Below w.heap.size w w' := by
  have hu : Upd (fun _ => False) w (w.alloc (.cells #[.int .i64 0, .bool false] 95)) := (Upd.refl _ _).alloc _
  have hc0 := (hu.cellAt (o := 0) (lt_of_block h.str) (fun h => h)).trans (cell_of_block h.str 0)
  simp at hc0
  have hle := h.le
  have hbl := lt_of_block h.str
  obtain ⟨g, off, cap, rfl, hg, q0, q1⟩ := h.at hk
  have p0 := (hu.cellAt hg (fun h => h)).trans q0
  have p1 := (hu.cellAt hg (fun h => h)).trans q1
  have hA := heap_alloc_last w (.cells #[.int .i64 0, .bool false] 95) rfl
  have HA := Lib.hid hA
  clear h q0 q1 hA
  go_enter Tryz.func100, Tryz.ntmps100
  go_wp2
  go_region_held3 (fun W => W.cell? ⟨b, 0, none⟩ = some (.slice (some ⟨g, off, none⟩) ps.length cap) ∧ W.cell? ⟨g, off + k * 2, none⟩ = some (.int .i64 ps[k].1) ∧ W.cell? ⟨g, off + k * 2 + 1, none⟩ = some (.bool ps[k].2)) (go_keep)
    ((go_at_call 173; refine (nowhere_ok _).mono ?_; rintro e w2 ⟨rfl, hu2, hz2⟩; have k0 := (hu2.cellAt (o := 0) (by simp; omega) (fun h => h)).trans hc0; have k1 := (hu2.cellAt (by simp; omega) (fun h => h)).trans p0; have k2 := (hu2.cellAt (by simp; omega) (fun h => h)).trans p1))
  have hb0 : (ps[k].1 == -1) = false := by simpa using hp
  have hA2 : w2.heap[w.heap.size]? = some (.cells #[.int .i64 0, .bool false] 95) := (hu2.block _ (by simp) (fun h => h)).trans HA.out
  have r0 := cell_of_block hA2 0
  have r1 := cell_of_block hA2 1
  have f0 := frozen_of_block hA2 0
  have f1 := frozen_of_block hA2 1
  simp at r0 r1
  have HA2 := Lib.hid hA2
  clear hA2
  go_wp2
  have HA3 := heap_setCell_same (heap_setCell_same HA2.out 0 (.int .i64 ps[k].1)) 1 (.bool ps[k].2)
  have y0 := cell_of_block HA3 0
  have y1 := cell_of_block HA3 1
  simp at y0 y1
  refine bodyPost_ret (v := .tuple #[placeV ps[k].1 ps[k].2, .int .i64 0]) ?_ rfl ⟨rfl, ?_⟩
  · simp [results, Tryz.results100, go_sem, y0, y1]
  · exact below_upd (below_upd (((Below.refl _ _).alloc (Nat.le_refl _) _).drew) hu2 (Nat.le_refl _) (fun _ (h : False) => h.elim)) ((upd_setCell w2 w.heap.size 0 (.int .i64 ps[k].1)).trans (upd_setCell _ _ 1 _)) (Nat.le_refl _) (fun j e => by omega)
theorem get_none {w : World} {b mb N : Nat} {v : Value} {ps : List (Int × Bool)} {slots : Nat} (h : IndexAt w b v mb N ps slots) (k : Nat) (hk : k < ps.length) (hp : ps[k] = (-1, false)) :
    Calls Tryz.prog 100 #[.pointer (some ⟨b, 0, none⟩), .int .i64 k] w fun e w' => e = .returned (.tuple #[placeV 0 false, .int .i64 14]) ∧ Below w.heap.size w w' := by
  have hu : Upd (fun _ => False) w (w.alloc (.cells #[.int .i64 0, .bool false] 95)) := (Upd.refl _ _).alloc _
  have hc0 := (hu.cellAt (o := 0) (lt_of_block h.str) (fun h => h)).trans (cell_of_block h.str 0)
  simp at hc0
  have hle := h.le
  have hbl := lt_of_block h.str
  obtain ⟨g, off, cap, rfl, hg, q0, q1⟩ := h.at hk
  rw [hp] at q0 q1
  have p0 := (hu.cellAt hg (fun h => h)).trans q0
  have p1 := (hu.cellAt hg (fun h => h)).trans q1
  have hA := heap_alloc_last w (.cells #[.int .i64 0, .bool false] 95) rfl
  have HA := Lib.hid hA
  clear h q0 q1 hA hp
  go_enter Tryz.func100, Tryz.ntmps100
  go_wp2
  go_region_held3 (fun W => W.cell? ⟨b, 0, none⟩ = some (.slice (some ⟨g, off, none⟩) ps.length cap) ∧ W.cell? ⟨g, off + k * 2, none⟩ = some (.int .i64 (-1)) ∧ W.cell? ⟨g, off + k * 2 + 1, none⟩ = some (.bool false)) (go_keep)
    ((go_at_call 173; refine (nowhere_ok _).mono ?_; rintro e w2 ⟨rfl, hu2, hz2⟩; have k0 := (hu2.cellAt (o := 0) (by simp; omega) (fun h => h)).trans hc0; have k1 := (hu2.cellAt (by simp; omega) (fun h => h)).trans p0; have k2 := (hu2.cellAt (by simp; omega) (fun h => h)).trans p1))
  have hA2 : w2.heap[w.heap.size]? = some (.cells #[.int .i64 0, .bool false] 95) := (hu2.block _ (by simp) (fun h => h)).trans HA.out
  have r0 := cell_of_block hA2 0
  have r1 := cell_of_block hA2 1
  have f0 := frozen_of_block hA2 0
  have f1 := frozen_of_block hA2 1
  simp at r0 r1
  have HA2 := Lib.hid hA2
  clear hA2
  go_wp2
  have HA3 := heap_setCell_same (heap_setCell_same HA2.out 0 (.int .i64 0)) 1 (.bool false)
  have y0 := cell_of_block HA3 0
  have y1 := cell_of_block HA3 1
  simp at y0 y1
  refine bodyPost_ret (v := .tuple #[placeV 0 false, .int .i64 14]) ?_ rfl ⟨rfl, ?_⟩
  · simp [results, Tryz.results100, go_sem, y0, y1]
  · exact below_upd (below_upd (((Below.refl _ _).alloc (Nat.le_refl _) _).drew) hu2 (Nat.le_refl _) (fun _ (h : False) => h.elim)) ((upd_setCell w2 w.heap.size 0 (.int .i64 0)).trans (upd_setCell _ _ 1 _)) (Nat.le_refl _) (fun j e => by omega)
theorem bits_xor_nat (a b : Nat) (ha : a < 4611686018427387904) (hb : b < 4611686018427387904) : bits .xor .i64 (a : Int) (b : Int) = ((a ^^^ b : Nat) : Int) := by
  have hx : a ^^^ b < 2 ^ 62 := Nat.xor_lt_two_pow (by omega) (by omega)
  have h1 : (BitVec.ofInt 64 (a : Int)).toNat = a := by rw [BitVec.ofInt_natCast, BitVec.toNat_ofNat]; exact Nat.mod_eq_of_lt (by omega)
  have h2 : (BitVec.ofInt 64 (b : Int)).toNat = b := by rw [BitVec.ofInt_natCast, BitVec.toNat_ofNat]; exact Nat.mod_eq_of_lt (by omega)
  show IntKind.i64.wrap ((BitVec.ofInt 64 (a : Int) ^^^ BitVec.ofInt 64 (b : Int)).toNat : Int) = _
  rw [BitVec.toNat_xor, h1, h2, IntKind.wrap_i64]
  omega
theorem bits_and_nat (a b : Nat) (ha : a < 4611686018427387904) (hb : b < 4611686018427387904) : bits .and .i64 (a : Int) (b : Int) = ((a &&& b : Nat) : Int) := by
  have hx : a &&& b < 2 ^ 62 := Nat.and_lt_two_pow _ (by omega)
  have h1 : (BitVec.ofInt 64 (a : Int)).toNat = a := by rw [BitVec.ofInt_natCast, BitVec.toNat_ofNat]; exact Nat.mod_eq_of_lt (by omega)
  have h2 : (BitVec.ofInt 64 (b : Int)).toNat = b := by rw [BitVec.ofInt_natCast, BitVec.toNat_ofNat]; exact Nat.mod_eq_of_lt (by omega)
  show IntKind.i64.wrap ((BitVec.ofInt 64 (a : Int) &&& BitVec.ofInt 64 (b : Int)).toNat : Int) = _
  rw [BitVec.toNat_and, h1, h2, IntKind.wrap_i64]
  omega
theorem bits_or_nat (a b : Nat) (ha : a < 4611686018427387904) (hb : b < 4611686018427387904) : bits .or .i64 (a : Int) (b : Int) = ((a ||| b : Nat) : Int) := by
  have hx : a ||| b < 2 ^ 62 := Nat.or_lt_two_pow (by omega) (by omega)
  have h1 : (BitVec.ofInt 64 (a : Int)).toNat = a := by rw [BitVec.ofInt_natCast, BitVec.toNat_ofNat]; exact Nat.mod_eq_of_lt (by omega)
  have h2 : (BitVec.ofInt 64 (b : Int)).toNat = b := by rw [BitVec.ofInt_natCast, BitVec.toNat_ofNat]; exact Nat.mod_eq_of_lt (by omega)
  show IntKind.i64.wrap ((BitVec.ofInt 64 (a : Int) ||| BitVec.ofInt 64 (b : Int)).toNat : Int) = _
  rw [BitVec.toNat_or, h1, h2, IntKind.wrap_i64]
  omega
def nibT : List Nat := [0, 274646895, 549293790, 820201905, 1098587580, 1361435347, 1640403810, 1905808397, 2197175160, 2460548119, 2722870694, 2987750089, 3280807620, 3553878443, 3811616794, 4084100981]
def nibC (i : Nat) : Nat := nibT.getD i 0
theorem nibC_lt (i : Nat) : nibC i < 4294967296 := by
  unfold nibC nibT
  by_cases h : i < 16
  · have : i = 0 ∨ i = 1 ∨ i = 2 ∨ i = 3 ∨ i = 4 ∨ i = 5 ∨ i = 6 ∨ i = 7 ∨ i = 8 ∨ i = 9 ∨ i = 10 ∨ i = 11 ∨ i = 12 ∨ i = 13 ∨ i = 14 ∨ i = 15 := by omega
    rcases this with rfl | rfl | rfl | rfl | rfl | rfl | rfl | rfl | rfl | rfl | rfl | rfl | rfl | rfl | rfl | rfl <;> decide
  · rw [List.getD_eq_getElem?_getD, List.getElem?_eq_none (by simp; omega)]; decide
def stepC (s f : Nat) : Nat := (s / 16) ^^^ nibC ((s ^^^ f) &&& 15)
theorem stepC_lt {s f : Nat} (h : s < 4294967296) : stepC s f < 4294967296 := by
  unfold stepC
  exact Nat.xor_lt_two_pow (n := 32) (by omega) (nibC_lt _)
def byteC (s : Nat) (b : UInt8) : Nat := stepC (stepC s (b.toNat &&& 15)) (b.toNat / 16)
theorem byteC_lt {s : Nat} {b : UInt8} (h : s < 4294967296) : byteC s b < 4294967296 := stepC_lt (stepC_lt h)
def sumC (xs : List UInt8) : Nat := xs.foldl byteC 4294967295
theorem sumC_snoc (xs : List UInt8) (b : UInt8) : sumC (xs ++ [b]) = byteC (sumC xs) b := by simp [sumC]
theorem sumC_lt (xs : List UInt8) : sumC xs < 4294967296 := by
  have : ∀ (xs : List UInt8) (s : Nat), s < 4294967296 → xs.foldl byteC s < 4294967296 := by
    intro xs
    induction xs with
    | nil => intro s h; exact h
    | cons b xs ih => intro s h; exact ih _ (byteC_lt h)
  exact this xs _ (by omega)
def crcC (xs : List UInt8) : Nat := sumC xs ^^^ 4294967295
theorem crcC_lt (xs : List UInt8) : crcC xs < 4294967296 := Nat.xor_lt_two_pow (n := 32) (sumC_lt xs) (by decide)
def lowB (n : Nat) : Nat → List UInt8
  | 0 => []
  | k + 1 => UInt8.ofNat n :: lowB (n / 256) k
theorem lowB_len (n k : Nat) : (lowB n k).length = k := by
  induction k generalizing n with
  | zero => rfl
  | succ k ih => simp [lowB, ih]
def numB : List UInt8 → Nat
  | [] => 0
  | b :: l => b.toNat + 256 * numB l
theorem numB_low (n k : Nat) (h : n < 256 ^ k) : numB (lowB n k) = n := by
  induction k generalizing n with
  | zero => simp at h; subst h; rfl
  | succ k ih =>
    simp only [lowB, numB]
    rw [ih (n / 256) (by rw [Nat.div_lt_iff_lt_mul (by omega)]; rw [Nat.pow_succ] at h; exact h)]
    have : (UInt8.ofNat n).toNat = n % 256 := by simp
    rw [this]; omega
def sealB (b : Bk) : Bk := b.take 60 ++ lowB (crcC (b.take 60)) 4
theorem sealB_len {b : Bk} (h : b.length = 64) : (sealB b).length = 64 := by simp [sealB, lowB_len, h]
theorem sealB_take {b : Bk} (h : b.length = 64) : (sealB b).take 60 = b.take 60 := by
  exact List.take_left' (by simp [h])
theorem sealB_seal {b : Bk} (h : b.length = 64) : sealB (sealB b) = sealB b := by
  show (sealB b).take 60 ++ _ = _
  rw [sealB_take h]
  rfl
structure Nib (w : World) : Prop where
  c : ∀ i, i < 16 → w.cell? ⟨0, i, none⟩ = some (.int .i64 (nibC i))
theorem Nib.lt {w : World} (h : Nib w) : 0 < w.heap.size := (addr_of_cell (h.c 0 (by decide))).2
theorem Nib.keep {w w' : World} (h : Nib w) {S : Nat → Prop} (hu : Upd S w w') (hs : ¬ S 0) : Nib w' := ⟨fun i hi => (hu.cellAt h.lt hs).trans (h.c i hi)⟩
theorem Nib.below {w w' : World} (h : Nib w) (hb : Below w.heap.size w w') : Nib w' := h.keep (Upd.of_below (S := fun _ => False) hb) (fun h => h)
set_option maxRecDepth 100000 in
set_option maxHeartbeats 1000000 in
theorem step_any {w : World} {g : Nat} (s f : Nat) (hs : s < 4294967296) (hf : f < 256) (hN : Nib w) (hc : w.cell? ⟨g, 0, none⟩ = some (.int .i64 (s : Int))) (hz : w.frozen? ⟨g, 0, none⟩ = false) :
    Calls Tryz.prog 262 #[.int .i64 (f : Int), .pointer (some ⟨g, 0, none⟩)] w fun e w' => e = .returned (.int .i64 (stepC s f : Nat)) ∧
      w'.cell? ⟨g, 0, none⟩ = some (.int .i64 (stepC s f : Nat)) ∧ w'.frozen? ⟨g, 0, none⟩ = false ∧ Upd (fun j => j = g) w w' := by
  have hx := bits_xor_nat s f (by omega) (by omega)
  have hxl : s ^^^ f < 4294967296 := Nat.xor_lt_two_pow (n := 32) (by omega) (by omega)
  have ha : bits .and .i64 ((s ^^^ f : Nat) : Int) 15 = (((s ^^^ f) &&& 15 : Nat) : Int) := bits_and_nat (s ^^^ f) 15 (by omega) (by omega)
  have hal : (s ^^^ f) &&& 15 < 16 := Nat.and_lt_two_pow (n := 4) _ (by omega)
  have hcell := hN.c _ hal
  have hst : bits .xor .i64 ((s : Int) / 16) ((nibC ((s ^^^ f) &&& 15) : Nat) : Int) = ((s / 16 ^^^ nibC ((s ^^^ f) &&& 15) : Nat) : Int) := bits_xor_nat (s / 16) (nibC ((s ^^^ f) &&& 15)) (by omega) (by have := nibC_lt ((s ^^^ f) &&& 15); omega)
  have hfin : Hid (stepC s f = s / 16 ^^^ nibC ((s ^^^ f) &&& 15)) := rfl
  generalize (s ^^^ f) &&& 15 = m at *
  clear hN
  go_enter Tryz.func262, Tryz.ntmps262
  go_wp2
  go_region
  rw [← hfin.out]
  have hU : Hid (Upd (fun j => j = g) w (w.setCell ⟨g, 0, none⟩ (.int .i64 (stepC s f : Nat))).drew) := (upd_setCell _ _ _ _).drew
  have hcc : (w.setCell ⟨g, 0, none⟩ (.int .i64 (stepC s f : Nat))).drew.cell? ⟨g, 0, none⟩ = some (.int .i64 (stepC s f : Nat)) := by
    rw [World.cell?_drew, World.cell?_setCell_same _ _ _ hc]
  have hff : (w.setCell ⟨g, 0, none⟩ (.int .i64 (stepC s f : Nat))).drew.frozen? ⟨g, 0, none⟩ = false := by simpa using hz
  have HF := Lib.hid (And.intro hcc hff)
  clear hff hst hx ha
  generalize (w.setCell ⟨g, 0, none⟩ (.int .i64 (stepC s f : Nat))).drew = w2 at *
  go_wp2
  go_ret
  exact ⟨rfl, HF.out.1, HF.out.2, hU.out⟩
theorem stepper_any {w : World} (s : Nat) :
    Calls Tryz.prog 180 #[.int .i64 (s : Int)] w fun e w' => e = .returned (.func (.func 262) #[] #[.pointer (some ⟨w.heap.size, 0, none⟩)]) ∧ w' = w.alloc (.cells #[.int .i64 (s : Int)] 3) := by
  have hmf : ∀ (fn : Fn) (first cap : Array Value) (w : World), (Instr.makeFunc fn first cap).run Tryz.prog w = .ok (.func fn first cap) w := fun _ _ _ _ => rfl
  go_enter Tryz.func180, Tryz.ntmps180
  go_wp2
  go_ret
  exact ⟨rfl, rfl⟩
set_option maxRecDepth 100000 in
set_option maxHeartbeats 1000000 in
theorem sum_any {w : World} {gl g o n cl cp : Nat} (xs : List UInt8) (hN : Nib w) (hl : w.cell? ⟨gl, 0, none⟩ = some (.slice (some ⟨g, o, none⟩) n cp)) (hx : w.rangeAt g o (bkC xs)) (hxl : xs.length = n) (hn : 1 ≤ n) (hn2 : n ≤ 1000) :
    Calls Tryz.prog 114 #[.slice (some ⟨gl, 0, none⟩) 1 cl] w fun e w' => e = .returned (.int .i64 (crcC xs : Nat)) ∧ Below w.heap.size w w' := by
  have hu : Upd (fun _ => False) w (w.alloc (.cells #[.int .i64 ((4294967295 : Nat) : Int)] 3)) := (Upd.refl _ w).alloc _
  have hc := cell_of_block (heap_alloc_last w (.cells #[.int .i64 ((4294967295 : Nat) : Int)] 3) rfl) 0
  have hz := frozen_of_block (heap_alloc_last w (.cells #[.int .i64 ((4294967295 : Nat) : Int)] 3) rfl) 0
  have hg : g < w.heap.size := by have := World.block_lt_of_cell? w _ (hx 0 _ (by rw [List.getElem?_eq_getElem (by rw [bkC_len]; omega)])); exact this
  have hgl : gl < w.heap.size := World.block_lt_of_cell? w _ hl
  have H := Lib.hid (And.intro hN (And.intro hl (And.intro hx (And.intro hxl (And.intro hu (And.intro hc (And.intro hz (And.intro hg hgl))))))))
  clear hN hl hx hxl hu hc hz hg hgl
  go_enter Tryz.func114, Tryz.ntmps114
  go_wp2
  go_step3
  go_wp2_with fail
  refine (stepper_any 4294967295).mono ?_
  rintro e w1 ⟨rfl, rfl⟩
  go_wp2
  go_step3
  go_wp2
  generalize hw1 : w.alloc (.cells #[.int .i64 ((4294967295 : Nat) : Int)] 3) = w1 at *
  have HW : Hid (w1 = w.alloc (.cells #[.int .i64 ((4294967295 : Nat) : Int)] 3)) := hw1.symm
  clear hw1
  go_loopw [3, 13] (fun s3 s13 wr => (s13 = .int .i64 0 ∧ s3 = .int .i64 4294967295 ∧ wr.cell? ⟨w.heap.size, 0, none⟩ = some (.int .i64 4294967295) ∧ wr.frozen? ⟨w.heap.size, 0, none⟩ = false ∧ Upd (fun j => j = w.heap.size) w1 wr) ∨
      (s13 = .int .i64 1 ∧ s3 = .int .i64 (sumC xs : Nat) ∧ Upd (fun j => j = w.heap.size) w1 wr)) (fun _ s13 _ => (1 - intOf s13).toNat)
  case atStart => obtain ⟨hN, hl, hx, hxl, hu, hc, hz, hg, hgl⟩ := H.out; exact .inl ⟨rfl, rfl, hc, hz, Upd.refl _ _⟩
  case round =>
    obtain ⟨wb, rfl⟩ : ∃ wb : World, wb = wr := ⟨_, rfl⟩
    rcases hrel with ⟨rfl, rfl, hc, hz, hu⟩ | ⟨rfl, rfl, hu⟩
    · obtain ⟨hN, hl, hx, hxl, hu0, -, -, hg, hgl⟩ := H.out
      have hU : Upd (fun j => j = w.heap.size) w wb := (hu0.mono (fun _ _ h => h.elim)).trans hu
      have hN' := hN.keep hU (by have := hN.lt; omega)
      have hl' := hU.cellv hl (by omega)
      have hx' := hU.range hx (by omega)
      have HH := Lib.hid (And.intro hN' (And.intro hx' (And.intro hu (And.intro hxl (And.intro hg (And.intro hc hz))))))
      clear hN hl hx hxl hu0 hg hgl hU hN' hx' hu hc hz
      have hn0 : ((n : Int) == 0) = false := by rw [beq_eq_false_iff_ne]; omega
      go_wp2
      clear hn0
      go_loopw [3, 22] (fun s3 s22 wr => ∃ k : Nat, k ≤ n ∧ s22 = .int .i64 k ∧ s3 = .int .i64 ((sumC (xs.take k) : Nat) : Int) ∧ wr.cell? ⟨w.heap.size, 0, none⟩ = some (.int .i64 ((sumC (xs.take k) : Nat) : Int)) ∧ wr.frozen? ⟨w.heap.size, 0, none⟩ = false ∧ Upd (fun j => j = w.heap.size) wb wr) (fun _ s22 _ => n - (intOf s22).toNat)
      case atStart => exact ⟨0, Nat.zero_le _, rfl, rfl, HH.out.2.2.2.2.2.1, HH.out.2.2.2.2.2.2, Upd.refl _ _⟩
      case round =>
        obtain ⟨k, hk, rfl, rfl, hc, hz, hu2⟩ := hrel
        obtain ⟨hN, hx, hu, hxl, hg, -, -⟩ := HH.out
        have hbl : (bkC xs).length = n := by rw [bkC_len, hxl]
        by_cases hlt : k < n
        · have hkx : k < xs.length := by omega
          have hck : wr.cell? ⟨g, o + k, none⟩ = some (.int .u8 ((xs[k].toNat : Nat) : Int)) :=
            hu2.cellv (hx k _ (by simp only [bkC, List.getElem?_map, List.getElem?_eq_getElem hkx, Option.map_some]; rfl)) (by omega)
          have hN2 := hN.keep hu2 (by have := (H.out.1).lt; omega)
          have hbt : xs[k].toNat < 256 := xs[k].toNat_lt
          have ha : bits .and .i64 ((xs[k].toNat : Nat) : Int) 15 = ((xs[k].toNat &&& 15 : Nat) : Int) := bits_and_nat xs[k].toNat 15 (by omega) (by omega)
          have hal : xs[k].toNat &&& 15 < 16 := Nat.and_lt_two_pow (n := 4) _ (by omega)
          have hsl := sumC_lt (xs.take k)
          have hts : Hid (sumC (xs.take (k + 1)) = stepC (stepC (sumC (xs.take k)) (xs[k].toNat &&& 15)) (xs[k].toNat / 16)) := by
            show _ = _
            rw [List.take_succ_eq_append_getElem hkx, sumC_snoc]; rfl
          have HX := Lib.hid (And.intro hN2 (And.intro hu2 (And.intro hc (And.intro hz (And.intro hal (And.intro hsl hxl))))))
          clear hN hx hu hxl hg hc hz hu2 hN2 hbl
          go_wp2_with fail
          generalize xs[k].toNat = by1 at *
          refine (step_any (sumC (xs.take k)) (by1 &&& 15) hsl (by omega) HX.out.1 HX.out.2.2.1 HX.out.2.2.2.1).mono ?_
          rintro e w2 ⟨rfl, hc2, hz2, hu3⟩
          have hN2 := HX.out.1.keep hu3 (by have := (H.out.1).lt; omega)
          have hs2 : stepC (sumC (xs.take k)) (by1 &&& 15) < 4294967296 := stepC_lt hsl
          have HY := Lib.hid (And.intro hN2 (And.intro hu3 (And.intro hc2 (And.intro hz2 hs2))))
          clear hN2 hu3 hc2 hz2 hs2
          go_wp2_with fail
          rw [show ((by1 : Int) / 16) = ((by1 / 16 : Nat) : Int) from rfl]
          refine (step_any _ (by1 / 16) HY.out.2.2.2.2 (by omega) HY.out.1 HY.out.2.2.1 HY.out.2.2.2.1).mono ?_
          rintro e w3 ⟨rfl, hc3, hz3, hu4⟩
          rw [← hts.out]
          rw [← hts.out] at hc3
          have HZ := Lib.hid (And.intro hu4 (And.intro hc3 hz3))
          clear hu4 hc3 hz3
          go_wp2
          go_roundw
          case rel => exact ⟨k + 1, by omega, by go_num, rfl, HZ.out.2.1, HZ.out.2.2, (HX.out.2.1.trans HY.out.2.1).trans HZ.out.1⟩
          case measure => simp [intOf]; omega
        · obtain rfl : k = n := by omega
          have HF : Hid (xs.take k = xs) := by show _ = _; rw [List.take_of_length_le (by omega)]
          have HG := Lib.hid (And.intro hu hu2)
          clear hu hu2 hN hx hxl hc hz hbl
          go_wp2
          go_roundw
          case rel => exact .inr ⟨rfl, by rw [HF.out], HG.out.1.trans HG.out.2⟩
          case measure => simp [intOf]
    · have hfx : bits .xor .i64 ((sumC xs : Nat) : Int) 4294967295 = ((crcC xs : Nat) : Int) := bits_xor_nat (sumC xs) 4294967295 (by have := sumC_lt xs; omega) (by omega)
      go_wp2
      try rw [Exit.noGoto_ret]
      go_ret
      obtain ⟨hN, hl, hx, hxl, hu0, -, -, hg, hgl⟩ := H.out
      exact ⟨rfl, below_upd (Upd.below hu0) hu (Nat.le_refl _) (fun k e => by omega)⟩
theorem need_any (n : Nat) (h1 : 1 ≤ n) (h2 : n ≤ 100000) (w : World) : Calls Tryz.prog 54 #[.int .i64 (n : Int)] w fun e w' => e = .returned (.int .i64 (((n - 1) / 4 + 1 : Nat) : Int)) ∧ w = w' := by
  have q1 : decide ((n : Int) < 0) = false := by simp
  have q2 : ((n : Int) == 0) = false := by rw [beq_eq_false_iff_ne]; omega
  have hn : ¬ ((n : Int) < 0) := by omega
  go_enter Tryz.func54, Tryz.ntmps54
  go_wp2
  go_ret
  refine ⟨?_, rfl⟩
  show Ending.returned (Value.int .i64 _) = _
  congr 2
  omega
theorem in_yes (n f t : Int) (h1 : f ≤ n) (h2 : n ≤ t) (w : World) : Calls Tryz.prog 53 #[.int .i64 n, .int .i64 f, .int .i64 t] w fun e w' => e = .returned (.bool true) ∧ w = w' := by
  have q1 : decide (f ≤ n) = true := by simpa using h1
  have q2 : decide (n ≤ t) = true := by simpa using h2
  go_enter Tryz.func53, Tryz.ntmps53
  go_wp2
  go_ret
  exact ⟨rfl, rfl⟩
abbrev superC (id bl sl jo pa lo ba : Int) : List Value := [.int .i64 id, .int .i64 bl, .int .i64 sl, .int .i64 jo, .int .i64 pa, .int .i64 lo, .int .i64 ba]
abbrev layC (sl jo pa lo : Nat) : List Value := [.int .i64 1, .int .i64 (1 + 2 * (pa : Int)), .int .i64 (1 + 2 * (pa : Int) + (jo : Int)), .int .i64 (1 + 2 * (pa : Int) + (jo : Int) + (lo : Int)), .int .i64 (1 + 2 * (pa : Int) + (jo : Int) + (lo : Int) + (lo : Int)), .int .i64 (1 + 2 * (pa : Int) + (jo : Int) + (lo : Int) + (lo : Int) + (lo : Int)), .int .i64 (1 + 2 * (pa : Int) + (jo : Int) + (lo : Int) + (lo : Int) + (lo : Int) + (sl : Int))]
theorem Upd.blockv {w w' : World} (h : Upd (fun _ => False) w w') {b : Nat} {o : Obj} (e : w.heap[b]? = some o) : w'.heap[b]? = some o := by
  have := h.block b (Array.getElem?_eq_some_iff.1 e).1 (fun h => h)
  rw [this, e]
theorem layC_one (sl jo pa lo : Nat) : (layC sl jo pa lo).toArray.all (·.oneCell') = true := by
  refine all_oneCell_toArray fun v hv => ?_
  simp only [layC, List.mem_cons, List.not_mem_nil, or_false] at hv
  rcases hv with rfl | rfl | rfl | rfl | rfl | rfl | rfl <;> rfl
theorem infoLay : (Tryz.prog.info? 43).map (·.size) = some 7 := by kernel_rfl
theorem infoSup : (Tryz.prog.info? 40).map (·.size) = some 7 := by kernel_rfl
set_option maxRecDepth 100000 in
set_option maxHeartbeats 4000000 in
theorem plan_ok (id : Int) (bl sl jo pa lo ba : Nat) (b1 : 1 ≤ bl) (b2 : bl ≤ 4096) (s1 : 1 ≤ sl) (s2 : sl ≤ 1024) (j1 : 4 ≤ jo) (j2 : jo ≤ 1024) (l1 : 1 ≤ lo) (l2 : lo ≤ 1024) (a1 : 1 ≤ ba) (a2 : ba ≤ 64) (p1 : (sl - 1) / 4 + 1 ≤ pa) (p2 : pa ≤ 4096)
    (hz : 1 + 2 * pa + jo + lo + lo + lo + sl ≤ 4096) (w : World) :
    Calls Tryz.prog 14 #[.agg (superC id bl sl jo pa lo ba).toArray] w fun e w' => e = .returned (.tuple #[.agg (layC sl jo pa lo).toArray, .int .i64 0]) ∧ Below w.heap.size w w' := by
  have hg := heap_alloc_last w (.cells (superC id bl sl jo pa lo ba).toArray 40) rfl
  have k1 : (w.alloc (.cells (superC id bl sl jo pa lo ba).toArray 40)).cell? ⟨w.heap.size, 1, none⟩ = some (.int .i64 (bl : Int)) := cell_of_block hg 1
  have k2 : (w.alloc (.cells (superC id bl sl jo pa lo ba).toArray 40)).cell? ⟨w.heap.size, 2, none⟩ = some (.int .i64 (sl : Int)) := cell_of_block hg 2
  have k3 : (w.alloc (.cells (superC id bl sl jo pa lo ba).toArray 40)).cell? ⟨w.heap.size, 3, none⟩ = some (.int .i64 (jo : Int)) := cell_of_block hg 3
  have k4 : (w.alloc (.cells (superC id bl sl jo pa lo ba).toArray 40)).cell? ⟨w.heap.size, 4, none⟩ = some (.int .i64 (pa : Int)) := cell_of_block hg 4
  have k5 : (w.alloc (.cells (superC id bl sl jo pa lo ba).toArray 40)).cell? ⟨w.heap.size, 5, none⟩ = some (.int .i64 (lo : Int)) := cell_of_block hg 5
  have k6 : (w.alloc (.cells (superC id bl sl jo pa lo ba).toArray 40)).cell? ⟨w.heap.size, 6, none⟩ = some (.int .i64 (ba : Int)) := cell_of_block hg 6
  go_enter Tryz.func14, Tryz.ntmps14
  go_wp2_with fail
  have hua : Upd (fun _ => False) (w.alloc (.cells (superC id bl sl jo pa lo ba).toArray 40)) ((w.alloc (.cells (superC id bl sl jo pa lo ba).toArray 40)).alloc (.cells #[.int .i64 0, .int .i64 0, .int .i64 0, .int .i64 0, .int .i64 0, .int .i64 0, .int .i64 0] 43)) := (Upd.refl _ _).alloc _
  have hgl : ((w.alloc (.cells (superC id bl sl jo pa lo ba).toArray 40)).alloc (.cells #[.int .i64 0, .int .i64 0, .int .i64 0, .int .i64 0, .int .i64 0, .int .i64 0, .int .i64 0] 43)).heap[w.heap.size + 1]? = _ := heap_alloc_last _ _ (by simp)
  have hul : Upd (fun _ => False) w ((w.alloc (.cells (superC id bl sl jo pa lo ba).toArray 40)).alloc (.cells #[.int .i64 0, .int .i64 0, .int .i64 0, .int .i64 0, .int .i64 0, .int .i64 0, .int .i64 0] 43)) := ((Upd.refl _ w).alloc _).alloc _
  have hs2 : ((w.alloc (.cells (superC id bl sl jo pa lo ba).toArray 40)).alloc (.cells #[.int .i64 0, .int .i64 0, .int .i64 0, .int .i64 0, .int .i64 0, .int .i64 0, .int .i64 0] 43)).heap.size = w.heap.size + 2 := by simp
  replace k1 := hua.cellv k1 (fun h => h)
  replace k2 := hua.cellv k2 (fun h => h)
  replace k3 := hua.cellv k3 (fun h => h)
  replace k4 := hua.cellv k4 (fun h => h)
  replace k5 := hua.cellv k5 (fun h => h)
  replace k6 := hua.cellv k6 (fun h => h)
  generalize (w.alloc (.cells (superC id bl sl jo pa lo ba).toArray 40)).alloc (.cells #[.int .i64 0, .int .i64 0, .int .i64 0, .int .i64 0, .int .i64 0, .int .i64 0, .int .i64 0] 43) = w2 at *
  generalize hm : w.heap.size = m at *
  have HM := Lib.hid (And.intro hgl (And.intro hul hs2))
  clear hg hua hgl hul hs2
  go_region_held3 (fun W => W.cell? ⟨m, 1, none⟩ = some (.int .i64 (bl : Int)) ∧ W.cell? ⟨m, 2, none⟩ = some (.int .i64 (sl : Int)) ∧ W.cell? ⟨m, 3, none⟩ = some (.int .i64 (jo : Int)) ∧ W.cell? ⟨m, 4, none⟩ = some (.int .i64 (pa : Int)) ∧ W.cell? ⟨m, 5, none⟩ = some (.int .i64 (lo : Int)) ∧ W.cell? ⟨m, 6, none⟩ = some (.int .i64 (ba : Int)))
    ((go_split_ands; (simp only [World.cell?_drew] at *); ((repeat' constructor) <;> assumption)))
    (first | (go_at_call 53; refine (in_yes _ _ _ (by omega) (by omega) _).mono ?_; rintro e w' ⟨rfl, rfl⟩) | (go_at_call 54; refine (need_any _ s1 (by omega) _).mono ?_; rintro e w' ⟨rfl, rfl⟩))
  obtain ⟨hgl, hul, hs2⟩ := HM.out
  clear HM k1 k2 k3 k4 k5 k6
  rename_i hHeld
  obtain ⟨k1, k2, k3, k4, k5, k6⟩ := hHeld
  have hm2 : m < w2.drew.heap.size := by show _ < w2.heap.size; omega
  have hm3 : m + 1 < w2.drew.heap.size := by show _ < w2.heap.size; omega
  have hu : Upd (fun _ => False) w w2.drew := hul.drew
  replace hgl : w2.drew.heap[m + 1]? = _ := hgl
  replace hs2 : w2.drew.heap.size = m + 2 := hs2
  have HM := Lib.hid (And.intro hgl (And.intro hu hs2))
  clear hgl hul hs2 hu
  generalize w2.drew = w3 at *
  have hth : Hid (∀ X, (w3.alloc X).there (m + 1) 0 7) := by
    intro X j hj
    have hb : (w3.alloc X).heap[m + 1]? = _ := ((Upd.refl (fun _ => False) w3).alloc X).blockv HM.out.1
    rw [cell_of_block hb, frozen_of_block hb, Nat.zero_add]
    refine ⟨?_, rfl⟩
    rw [Array.getElem?_eq_getElem (by simpa using hj)]
    rfl
  go_upto_region 14 with fail
  have rA := range_of_block (heap_alloc_last w3 (.cells (layC sl jo pa lo).toArray 43) rfl)
  have hB : Below w.heap.size w (w3.alloc (.cells (layC sl jo pa lo).toArray 43)) := Upd.below ((HM.out.2.1).alloc _)
  have hth2 := hth.out (.cells (layC sl jo pa lo).toArray 43)
  clear k1 k2 k3 k4 k5 k6 HM hth
  generalize w3.alloc (.cells (layC sl jo pa lo).toArray 43) = w5 at *
  generalize w3.heap.size = m3 at *
  have h7 : (layC sl jo pa lo).length = 7 := rfl
  have h1 := layC_one sl jo pa lo
  have hE : (Value.tuple #[.agg (layC sl jo pa lo).toArray, .int .i64 0]) = Value.tuple #[.agg (layC sl jo pa lo).toArray, .int .i64 0] := rfl
  generalize hL : layC sl jo pa lo = L at *
  have hi : (Tryz.prog.info? 43).map (·.size) = some L.length := by rw [h7]; exact infoLay
  have hi2 : (Tryz.prog.info? 43).map (·.size) = some L.toArray.size := by rw [List.size_toArray, h7]; exact infoLay
  have hth3 : w5.there (m + 1) 0 L.toArray.size := by rw [List.size_toArray, h7]; exact hth2
  have hth4 : w5.there (m + 1) 0 L.length := by rw [h7]; exact hth2
  have HF := Lib.hid (And.intro hB (And.intro hth3 (And.intro hth4 (And.intro hi (And.intro hi2 h1)))))
  clear hB hth2 hth3 hth4 hi hi2 h1 h7 hE
  go_wp2_with (first
    | (refine wpList_load_mid rfl _ _ rfl _ _ rfl L _ rA Tryz.underlying43 rfl HF.out.2.2.2.1 ?_)
    | (refine wpList_store_mid rfl _ _ _ rfl (m + 1) 0 L.toArray rfl rfl HF.out.2.1 HF.out.2.2.2.2.1 HF.out.2.2.2.2.2 ?_)
    | fail)
  refine bodyPost_ret (results_mid2 rfl _ _ (m + 1) 0 L _ rfl (World.rangeAt_setCells_same _ _ _ _ HF.out.2.2.1) Tryz.underlying43 rfl HF.out.2.2.2.1) rfl ⟨by subst hL; rfl, below_upd (hm ▸ HF.out.1) (upd_row _ (m + 1) 0 _) (by omega) (fun k e => by omega)⟩
theorem Dv.thing (b : Nat) (F : List Bk) (O : List (Nat × Bk)) (P : List Int) : Thing (fun S w => Dv S w b F O P) where
  keep := fun h hu hs => h.keep hu hs
  out := fun h hs => h.out hs
theorem Ck.thing (b N most few : Nat) (K : List Int) (A : Int → Bool) (G : List Int) : Thing (fun S w => Ck S w b N most few K A G) where
  keep := fun h hu hs => h.keep hu hs
  out := fun h hs => h.out hs
def Ix (S : Nat → Prop) (w : World) (b N : Nat) (ps : List (Int × Bool)) (slots : Nat) : Prop := ∃ v mb, IndexAt w b v mb N ps slots ∧ S b ∧ ∀ j, ixS v mb j → S j
theorem Ix.thing (b N : Nat) (ps : List (Int × Bool)) (slots : Nat) : Thing (fun S w => Ix S w b N ps slots) where
  keep := fun ⟨v, mb, h, hb, hs⟩ hu hd => ⟨v, mb, h.keep hu (hd _ hb) (fun j hj => hd _ (hs j hj)), hb, hs⟩
  out := fun ⟨v, mb, h, hb, hs⟩ ho => ⟨v, mb, h, ho _ h.blt hb, fun j hj => ho _ (h.slt j hj) (hs j hj)⟩
def Ss (S : Nat → Prop) (w : World) (b : Nat) (l : List Int) : Prop := ∃ v, SlotsAt 327 w b v l ∧ S b ∧ ∀ j, v.ownBlock = some j → S j
theorem Ss.thing (b : Nat) (l : List Int) : Thing (fun S w => Ss S w b l) where
  keep := fun ⟨v, h, hb, hs⟩ hu hd => ⟨v, h.keep hu (hd _ hb) (fun j hj => hd _ (hs j hj)), hb, hs⟩
  out := fun ⟨v, h, hb, hs⟩ ho => ⟨v, h, ho _ (lt_of_block h.str) hb, fun j hj => ho _ (h.sl.lt hj) (hs j hj)⟩
def Mp (S : Nat → Prop) (w : World) (mb N : Nat) (f : Int → Option Nat) : Prop := MapAt w mb N f ∧ S mb
theorem Mp.thing (mb N : Nat) (f : Int → Option Nat) : Thing (fun S w => Mp S w mb N f) where
  keep := fun ⟨h, hs⟩ hu hd => ⟨h.keep hu (hd _ hs), hs⟩
  out := fun ⟨h, hs⟩ ho => ⟨h, ho _ h.lt hs⟩
structure CaN where
  id : Nat
  bl : Nat
  sl : Nat
  jo : Nat
  pa : Nat
  lo : Nat
  ba : Nat
structure CaP where
  ssd : Nat
  back : Nat
  jr : Nat
  ix : Nat
  ss : Nat
  lg : Nat
  ck : Nat
  sm : Nat
structure CaS where
  which : Nat
  dF : List Bk
  dO : List (Nat × Bk)
  dP : List Int
  bF : List Bk
  bO : List (Nat × Bk)
  bP : List Int
  cov : Nat
  next : Nat
  W : List (Nat × Bk)
  iN : Nat
  ps : List (Int × Bool)
  st : List Int
  G : List (Int → Bool)
  kN : Nat
  K : List Int
  A : Int → Bool
  H : List Int
  mN : Nat
  sums : Int → Option Nat
def CaN.size (n : CaN) : Nat := 1 + 2 * n.pa + n.jo + n.lo + n.lo + n.lo + n.sl
def CaN.C (n : CaN) : List Value := superC n.id n.bl n.sl n.jo n.pa n.lo n.ba
structure CaN.Ok (n : CaN) : Prop where
  b1 : 1 ≤ n.bl
  b2 : n.bl ≤ 4096
  s1 : 1 ≤ n.sl
  s2 : n.sl ≤ 1024
  j1 : 4 ≤ n.jo
  j2 : n.jo ≤ 1024
  l1 : 1 ≤ n.lo
  l2 : n.lo ≤ 1024
  a1 : 1 ≤ n.ba
  a2 : n.ba ≤ 64
  p1 : (n.sl - 1) / 4 + 1 ≤ n.pa
  p2 : n.pa ≤ 4096
  z : n.size ≤ 4096
abbrev ptr (b : Nat) : Value := .pointer (some ⟨b, 0, none⟩)
def caC (n : CaN) (p : CaP) (which : Nat) : List Value :=
  n.C ++ (layC n.sl n.jo n.pa n.lo ++ [ptr p.ssd, ptr p.back, .int .i64 which, ptr p.jr, ptr p.ix, ptr p.ss, ptr p.lg, ptr p.ck, .map (some p.sm)])
structure CaAt (own : Nat → Nat) (w : World) (c : Nat) (n : CaN) (p : CaP) (a : CaS) : Prop where
  str : w.heap[c]? = some (.cells (caC n p a.which).toArray 172 (0, 0))
  oc : own c = 1
  ok : n.Ok
  ssd : Dv (fun j => own j = 2) w p.ssd a.dF a.dO a.dP
  back : Dv (fun j => own j = 3) w p.back a.bF a.bO a.bP
  jr : Jn (fun j => own j = 4) w p.jr p.ssd (1 + 2 * n.pa) n.jo a.cov a.next a.W
  ix : Ix (fun j => own j = 5) w p.ix a.iN a.ps n.sl
  ss : Ss (fun j => own j = 6) w p.ss a.st
  lg : Lg (fun j => own j = 7) w p.lg n.bl a.G
  ck : Ck (fun j => own j = 8) w p.ck a.kN n.sl n.sl a.K a.A a.H
  sm : Mp (fun j => own j = 9) w p.sm a.mN a.sums
  far : ∀ j, w.heap.size ≤ j → own j = 0
  nib : Nib w
  tur : Tur w
  on : own 0 = 0
  ot : own 1 = 0
  fl : a.dF.length = n.size
  gl : a.bF.length = n.bl
  pl : a.ps.length = n.bl
  sl : a.st.length = n.sl
  Gl : a.G.length = n.sl
  wh : a.which ≤ 1
section
variable {own : Nat → Nat} {w w' : World} {c : Nat} {n : CaN} {p : CaP} {a : CaS}
theorem CaAt.clt (h : CaAt own w c n p a) : c < w.heap.size := lt_of_block h.str
theorem CaAt.new (h : CaAt own w c n p a) (hu : Upd (fun _ => False) w w') : CaAt own w' c n p a :=
  { h with
    str := (hu.block c h.clt (fun h => h)).trans h.str
    ssd := (Dv.thing _ _ _ _).new h.ssd hu
    back := (Dv.thing _ _ _ _).new h.back hu
    jr := (Jn.thing _ _ _ _ _ _ _).new h.jr hu
    ix := (Ix.thing _ _ _ _).new h.ix hu
    ss := (Ss.thing _ _).new h.ss hu
    lg := (Lg.thing _ _ _).new h.lg hu
    ck := (Ck.thing _ _ _ _ _ _ _).new h.ck hu
    sm := (Mp.thing _ _ _).new h.sm hu
    far := fun j hj => h.far j (Nat.le_trans hu.size hj)
    nib := h.nib.keep hu (fun h => h)
    tur := h.tur.keep hu (fun h => h) }
end
end Go.Proofs.YtfhfbpmlnjdfoaaGreatDoor
