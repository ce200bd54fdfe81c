/- 'slices.Repeat' of one place; 'math/bits.Mul'. -/
import Derived.Test.YtmgcekpfnkcmjaaInts
import Derived.Test.YtmgcekpfnkcmjaaLaw
import Derived.Laws.CopyRow
import Derived.Shelf.Bits.Mul64
import Derived.StillTailTactics
namespace Go.Proofs.Ytmgcekpfnkcmjaa
open Go Go.RowKit

theorem mul64 (x y : Nat) (hx : x < 18446744073709551616) (hy : y < 18446744073709551616) (w : World) :
    Calls Try.prog 103 #[.int .u64 x, .int .u64 y] w fun e w' => e = .returned (.tuple #[.int .u64 ((x * y / 18446744073709551616 : Nat) : Int), .int .u64 ((x * y % 18446744073709551616 : Nat) : Int)]) ∧ w' = w := by
  obtain ⟨bd, bt, bw, hhi⟩ := Lib.mul64_hi x y hx hy
  have ba := Lib.half_mul_le (a := x / 4294967296) (b := y / 4294967296) (by omega) (by omega)
  have bb := Lib.half_mul_le (a := x / 4294967296) (b := y % 4294967296) (by omega) (by omega)
  have bc := Lib.half_mul_le (a := x % 4294967296) (b := y / 4294967296) (by omega) (by omega)
  have ba' : x / 4294967296 * (y / 4294967296) < 18446744073709551616 := by omega
  have bb' : x / 4294967296 * (y % 4294967296) < 18446744073709551616 := by omega
  have bc' : x % 4294967296 * (y / 4294967296) < 18446744073709551616 := by omega
  have bh1 : x / 4294967296 * (y / 4294967296) + (x / 4294967296 * (y % 4294967296) + x % 4294967296 * (y % 4294967296) / 4294967296) / 4294967296 < 18446744073709551616 := by omega
  have bh : x / 4294967296 * (y / 4294967296) + (x / 4294967296 * (y % 4294967296) + x % 4294967296 * (y % 4294967296) / 4294967296) / 4294967296 + ((x / 4294967296 * (y % 4294967296) + x % 4294967296 * (y % 4294967296) / 4294967296) % 4294967296 + x % 4294967296 * (y / 4294967296)) / 4294967296 < 18446744073709551616 := by omega
  go_enter Try.func103, Try.ntmps103
  go_wp2
  simp only [Mul64.maskN x hx, Mul64.maskN y hy, Mul64.divN, Mul64.mulN, Mul64.addN, Mul64.wrapN _ bd, Mul64.wrapN _ bb', Mul64.wrapN _ bt, Mul64.maskN _ bt, Mul64.wrapN _ bc', Mul64.wrapN _ bw, Mul64.wrapN _ ba', Mul64.wrapN _ bh1, Mul64.wrapN _ bh, Mul64.wrapM (x * y)]
  rw [hhi]
  go_ret2
  exact ⟨rfl, rfl⟩

theorem mul (x y : Nat) (hx : x < 18446744073709551616) (hy : y < 18446744073709551616) (w : World) :
    Calls Try.prog 85 #[.int .u64 x, .int .u64 y] w fun e w' => e = .returned (.tuple #[.int .u64 ((x * y / 18446744073709551616 : Nat) : Int), .int .u64 ((x * y % 18446744073709551616 : Nat) : Int)]) ∧ w' = w := by
  go_enter Try.func85, Try.ntmps85
  go_wp2_with fail
  refine (mul64 x y hx hy w).mono ?_
  rintro e w' ⟨rfl, rfl⟩
  go_wp2
  go_ret2
  exact ⟨rfl, rfl⟩

section
variable {P : Program}
/-- 'copy' where an element has k cells. -/
theorem run_copy_rowk (w : World) (dT sT ty elem : TypeId) (k g o dLen dCap : Nat) (a : Addr) (sLen sCap : Nat) (cur : Array Value) (t : TypeId) (cs : List Value)
    (hu : P.underlying dT = some (.slice elem)) (hs : (P.info? elem).map (·.size) = some k)
    (hg : w.heap[g]? = some (.cells cur t (0, 0))) (hn : cs.length = Nat.min sLen dLen * k)
    (hsrc : ∀ j v, cs[j]? = some v → w.cell? (a.add j) = some v) (hfit : o + cs.length ≤ cur.size) (h1 : ∀ v ∈ cs, v.oneCell' = true) :
    (Builtin.copy_ #[dT, sT] ty #[.slice (some ⟨g, o, none⟩) dLen dCap, .slice (some a) sLen sCap]).run P w =
      .ok (goInt (Nat.min sLen dLen : Nat)) (w.setRow g (cur.toList.take o ++ cs ++ cur.toList.drop (o + cs.length)).toArray) := by
  have hl := run_loadCells_list (P := P) w a cs hsrc
  have hst := run_storeCells_at P g o t cs 0 cur w hg (by simpa using hfit) h1
  cases hq : P.info? elem with
  | none => simp [hq] at hs
  | some i =>
    have hi : i.size = k := by simpa [hq] using hs
    rw [hn] at hl
    simp [Builtin.copy_, run_underlying hu, Builtin.lenOf, Builtin.firstCells, sizeOf, typeInfo, hq, hi, hl, hst]
/-- .. with the world behind it as a variable. -/
theorem copy_rowk (w : World) (dT sT elem : TypeId) (k g o dLen dCap : Nat) (a : Addr) (sLen sCap : Nat) (cur : Array Value) (t : TypeId) (cs : List Value)
    (hu : P.underlying dT = some (.slice elem)) (hs : (P.info? elem).map (·.size) = some k)
    (hg : w.heap[g]? = some (.cells cur t (0, 0))) (hn : cs.length = Nat.min sLen dLen * k)
    (hsrc : ∀ j v, cs[j]? = some v → w.cell? (a.add j) = some v) (hfit : o + cs.length ≤ cur.size) (h1 : ∀ v ∈ cs, v.oneCell' = true) :
    ∃ w', (∀ ty, (Builtin.copy_ #[dT, sT] ty #[.slice (some ⟨g, o, none⟩) dLen dCap, .slice (some a) sLen sCap]).run P w = .ok (goInt (Nat.min sLen dLen : Nat)) w') ∧
      w'.heap[g]? = some (.cells (cur.toList.take o ++ (cs ++ cur.toList.drop (o + cs.length))).toArray t (0, 0)) ∧ Upd (fun j => j = g) w w' ∧ w'.heap.size = w.heap.size :=
  ⟨_, fun ty => run_copy_rowk w dT sT ty elem k g o dLen dCap a sLen sCap cur t cs hu hs hg hn hsrc hfit h1, by rw [← List.append_assoc]; exact setRow_heap w g cur _ t _ hg, ⟨rfl, rfl, rfl, by simp [World.setRow], fun k _ hk => setRow_other w g k _ (fun e => hk e)⟩, by simp [World.setRow]⟩
end

/-- n places of a block that is nowhere, as cells. -/
def noPl (n : Nat) : List Value := (List.replicate n ()).flatMap fun _ => [.int .i64 (-1), .bool false]
theorem noPl_len (n : Nat) : (noPl n).length = n * 2 := by
  have := length_flat (f := fun _ : Unit => [Value.int .i64 (-1), Value.bool false]) (k := 2) (fun _ => rfl) (List.replicate n ())
  rw [List.length_replicate] at this; exact this
theorem noPl_add (a b : Nat) : noPl (a + b) = noPl a ++ noPl b := by
  simp only [noPl]
  rw [← List.replicate_append_replicate, List.flatMap_append]

theorem infoPlace : (Try.prog.info? 36).map (fun i => (i.zero, i.size, i.bytes)) = some (some (.agg #[.int .i64 0, .bool false]), 2, 16) := by kernel_rfl

set_option maxRecDepth 100000 in
theorem repeat_ok (n : Nat) (gx : Nat) (w : World) (h1 : 1 ≤ n) (h2 : n ≤ 4096) (hx : w.heap[gx]? = some (.cells #[.int .i64 (-1), .bool false] 36)) :
    Calls Try.prog 47 #[.slice (some ⟨gx, 0, none⟩) 1 1, .int .i64 n] w fun e w' => e = .returned (.slice (some ⟨w.heap.size, 0, none⟩) n n) ∧
      w'.heap[w.heap.size]? = some (.cells (noPl n).toArray 36) ∧ Below w.heap.size w w' ∧ w'.heap.size = w.heap.size + 1 := by
  obtain ⟨i0, hi, hz0, hz1, hz2⟩ := info_parts infoPlace
  have hmk : ∀ w : World, ∃ zs : List Value, zs.length = n * 2 ∧ (Instr.makeSlice 46 (.int .i64 n) (.int .i64 n)).run Try.prog w = .ok (.slice (some ⟨w.heap.size, 0, none⟩) n n) (w.alloc (.cells zs.toArray 36)) := by
    intro w
    have := run_make (P := Try.prog) w 46 36 i0 (.agg #[.int .i64 0, .bool false]) Try.underlying46 hi hz0 .i64 .i64 n n (by omega) (by omega) (by rw [hz2]; omega) (by omega)
    refine ⟨(madeCells #[.int .i64 0, .bool false] (n * 2)).toList, by simp [size_madeCells], ?_⟩
    rw [this]
    simp [hz1, Value.cells]
  obtain ⟨zs, hzl, hrun⟩ := hmk w
  have hn0 : ¬ (n : Int) < 0 := by omega
  clear hi hz0 hz1 hz2 hmk
  go_enter Try.func47, Try.ntmps47
  go_wp2_with fail
  refine (mul 1 n (by decide) (by omega) _).mono ?_
  rintro e w' ⟨rfl, rfl⟩
  rw [show 1 * n / 18446744073709551616 = 0 by omega, show 1 * n % 18446744073709551616 = n by omega]
  have hgx := lt_of_block hx
  have hA : (w'.alloc (.cells zs.toArray 36)).heap[w'.heap.size]? = some (.cells zs.toArray 36) := heap_alloc_last _ _ rfl
  have hxA : (w'.alloc (.cells zs.toArray 36)).heap[gx]? = some (.cells #[.int .i64 (-1), .bool false] 36) := (Below.heap_alloc _ _ _ hgx).trans hx
  have hS : (Try.prog.info? 36).map (·.size) = some 2 := by kernel_rfl
  have HA := Lib.hid hA; have HX := Lib.hid hxA; have HRUN := Lib.hid hrun
  clear hA hxA hx
  have hmn : Nat.min 1 n = 1 := Nat.min_eq_left h1
  have e1 : ([.int .i64 (-1), .bool false] : List Value).length = Nat.min 1 n * 2 := by rw [hmn]; rfl
  have e2 : ∀ (j : Nat) (v : Value), ([.int .i64 (-1), .bool false] : List Value)[j]? = some v → (w'.alloc (.cells zs.toArray 36)).cell? ((⟨gx, 0, none⟩ : Addr).add j) = some v := fun j v hj => by rw [Addr.add_lit, cell_of_block HX.out]; simpa using hj
  have e3 : 0 + ([.int .i64 (-1), .bool false] : List Value).length ≤ zs.toArray.size := by simp; omega
  obtain ⟨w2, hcp, hg2, hu2, hz2⟩ := copy_rowk (P := Try.prog) (w'.alloc (.cells zs.toArray 36)) 46 46 36 2 w'.heap.size 0 n n ⟨gx, 0, none⟩ 1 1 zs.toArray 36 [.int .i64 (-1), .bool false] Try.underlying46 hS HA.out e1 e2 e3 (by simp [Value.oneCell'])
  rw [hmn] at hcp
  clear e1 e2 e3
  have hg3 : w2.heap[w'.heap.size]? = some (.cells (noPl 1 ++ zs.drop 2).toArray 36) := by rw [hg2]; rfl
  have hB2 : Below w'.heap.size w' w2 := below_upd ((Below.refl _ _).alloc (Nat.le_refl _) _) hu2 (Nat.le_refl _) (fun j e => by omega)
  have hz3 : w2.heap.size = w'.heap.size + 1 := by rw [hz2]; simp
  clear hg2 hu2 hz2
  go_wp2
  clear hcp HX HRUN hrun
  go_loopg [8] (n - 1) (fun q i wr => ∃ (k : Nat) (rest : List Value), 1 ≤ k ∧ k ≤ n ∧ q = n - k ∧ i = .int .i64 k ∧ rest.length = (n - k) * 2 ∧ wr.heap[w'.heap.size]? = some (.cells (noPl k ++ rest).toArray 36) ∧ Below w'.heap.size w' wr ∧ wr.heap.size = w'.heap.size + 1)
  case atStart => exact ⟨1, zs.drop 2, by omega, h1, rfl, rfl, by simp; omega, hg3, hB2, hz3⟩
  case round =>
    clear hg3 hB2 hz3
    obtain ⟨k, rest, hk1, hkn, rfl, rfl, hrl, hg, hb, hz⟩ := hrel
    by_cases hlt : k < n
    · have hkk : noPl k = noPl (Nat.min k (n - k)) ++ noPl (k - Nat.min k (n - k)) := by rw [← noPl_add]; congr 1; have := Nat.min_le_left k (n - k); show k = min k (n - k) + _; have : min k (n - k) ≤ k := Nat.min_le_left _ _; show k = min k (n-k) + (k - min k (n-k)); omega
      obtain ⟨w3, hcp, hg4, hu4, hz4⟩ := copy_rowk (P := Try.prog) wr.drew 46 46 36 2 w'.heap.size (k * 2) (n - k) (n - k) ⟨w'.heap.size, 0, none⟩ k n (noPl k ++ rest).toArray 36 (noPl (Nat.min k (n - k))) Try.underlying46 hS hg (by rw [noPl_len])
        (fun j v hj => by
          rw [Addr.add_lit, cell_of_block (w := wr.drew) hg]
          have hjl := (List.getElem?_eq_some_iff.1 hj).1
          rw [hkk]
          simp only [List.getElem?_toArray, Nat.zero_add, List.append_assoc]
          rw [List.getElem?_append_left hjl]; exact hj)
        (by rw [noPl_len]; simp only [List.size_toArray, List.length_append, noPl_len, hrl]; have : Nat.min k (n - k) ≤ n - k := Nat.min_le_right _ _; omega) (by intro v hv; simp only [noPl, List.mem_flatMap] at hv; obtain ⟨_, _, hv⟩ := hv; simp at hv; rcases hv with rfl | rfl <;> simp [Value.oneCell'])
      go_wp2
      go_region
      obtain ⟨c, hce⟩ : ∃ c, c = Nat.min k (n - k) := ⟨_, rfl⟩
      rw [← hce] at hkk hg4
      have hc1 : 1 ≤ c := by rw [hce]; exact Nat.le_min.2 ⟨hk1, by omega⟩
      have hc2 : c ≤ n - k := by rw [hce]; exact Nat.min_le_right _ _
      have hg5 : w3.heap[w'.heap.size]? = some (.cells (noPl (k + c) ++ rest.drop (c * 2)).toArray 36) := by
        rw [hg4, noPl_add]
        have e1 : (noPl k ++ rest).toArray.toList.take (k * 2) = noPl k := by simp [noPl_len]
        have e2 : (noPl k ++ rest).toArray.toList.drop (k * 2 + (noPl c).length) = rest.drop (c * 2) := by
          rw [noPl_len]; show (noPl k ++ rest).drop (k * 2 + c * 2) = _
          rw [List.drop_append, noPl_len, List.drop_eq_nil_of_le (by rw [noPl_len]; omega)]
          simp
        rw [e1, e2, List.append_assoc]
      have hb3 : Below w'.heap.size w' w3 := below_upd hb (((Upd.refl _ wr).drew).trans hu4) (Nat.le_refl _) (fun j e => by omega)
      have hz5 : w3.heap.size = w'.heap.size + 1 := by rw [hz4]; exact hz
      rw [← hce]
      clear hg4 hu4 hz4 hg hb hz hcp hkk hce
      have hkc : k + c ≤ 4096 := by omega
      have hkc' : ∀ x : Int, x = (k : Int) + c → wrap64 x = ((k + c : Nat) : Int) := by intro x hx; subst hx; unfold wrap64; omega
      go_wp2
      go_roundg (n - (k + c))
      case measure => omega
      case rel => exact ⟨k + c, rest.drop (c * 2), by omega, by omega, rfl, by rw [hkc' _ rfl], by simp; omega, hg5, hb3, hz5⟩
    · obtain rfl : k = n := by omega
      obtain rfl : rest = [] := List.eq_nil_of_length_eq_zero (by omega)
      rw [List.append_nil] at hg
      go_wp2
      go_ret
      exact ⟨rfl, hg, hb, hz⟩
end Go.Proofs.Ytmgcekpfnkcmjaa
