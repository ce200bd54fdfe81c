/- Plan of an admissible superblock, Need. 'slices.Repeat' of one place; 'math/bits.Mul'. Pages: build, of no entries. A row of one thing, as it is built. A new thing of many cells: its cells by a name. Pages: the page of numbers. -/
import Derived.Test.YtfhfbpmlnjdfoaaGreatDoorA08
import Derived.BigQuiet
import Derived.Deep.QuietTactic
import Derived.Test.YtfhfbpmlnjdfoaaGreatDoorA01
import Derived.Laws.CopyRow
import Derived.Shelf.Bits.Mul64
import Derived.StillTailTactics
import Derived.Test.YtfhfbpmlnjdfoaaGreatDoorA02
import Derived.Test.YtfhfbpmlnjdfoaaGreatDoorA07
import Derived.Test.YtfhfbpmlnjdfoaaGreatDoorA06
namespace Go.Proofs.YtfhfbpmlnjdfoaaGreatDoor
open Go Go.RowKit
theorem need_any (n : Nat) (h1 : 1 ≤ n) (h2 : n ≤ 100000) (w : World) : Calls Tryz.prog 54 #[.int .i64 (n : Int)] w fun e w' => e = .returned (.int .i64 (((n - 1) / 4 + 1 : Nat) : Int)) ∧ w = w' := by
  have q1 : decide ((n : Int) < 0) = false := by simp
  have q2 : ((n : Int) == 0) = false := by rw [beq_eq_false_iff_ne]; omega
  have hn : ¬ ((n : Int) < 0) := by omega
  go_enter Tryz.func54, Tryz.ntmps54
  go_wp2
  go_ret
  refine ⟨?_, rfl⟩
  show Ending.returned (Value.int .i64 _) = _
  congr 2
  omega
theorem in_yes (n f t : Int) (h1 : f ≤ n) (h2 : n ≤ t) (w : World) : Calls Tryz.prog 53 #[.int .i64 n, .int .i64 f, .int .i64 t] w fun e w' => e = .returned (.bool true) ∧ w = w' := by
  have q1 : decide (f ≤ n) = true := by simpa using h1
  have q2 : decide (n ≤ t) = true := by simpa using h2
  go_enter Tryz.func53, Tryz.ntmps53
  go_wp2
  go_ret
  exact ⟨rfl, rfl⟩
abbrev superC (id bl sl jo pa lo ba : Int) : List Value := [.int .i64 id, .int .i64 bl, .int .i64 sl, .int .i64 jo, .int .i64 pa, .int .i64 lo, .int .i64 ba]
abbrev layC (sl jo pa lo : Nat) : List Value := [.int .i64 1, .int .i64 (1 + 2 * (pa : Int)), .int .i64 (1 + 2 * (pa : Int) + (jo : Int)), .int .i64 (1 + 2 * (pa : Int) + (jo : Int) + (lo : Int)), .int .i64 (1 + 2 * (pa : Int) + (jo : Int) + (lo : Int) + (lo : Int)), .int .i64 (1 + 2 * (pa : Int) + (jo : Int) + (lo : Int) + (lo : Int) + (lo : Int)), .int .i64 (1 + 2 * (pa : Int) + (jo : Int) + (lo : Int) + (lo : Int) + (lo : Int) + (sl : Int))]
theorem Upd.blockv {w w' : World} (h : Upd (fun _ => False) w w') {b : Nat} {o : Obj} (e : w.heap[b]? = some o) : w'.heap[b]? = some o := by
  have := h.block b (Array.getElem?_eq_some_iff.1 e).1 (fun h => h)
  rw [this, e]
theorem layC_one (sl jo pa lo : Nat) : (layC sl jo pa lo).toArray.all (·.oneCell') = true := by
  refine all_oneCell_toArray fun v hv => ?_
  simp only [layC, List.mem_cons, List.not_mem_nil, or_false] at hv
  rcases hv with rfl | rfl | rfl | rfl | rfl | rfl | rfl <;> rfl
theorem infoLay : (Tryz.prog.info? 43).map (·.size) = some 7 := by kernel_rfl
theorem infoSup : (Tryz.prog.info? 40).map (·.size) = some 7 := by kernel_rfl
set_option maxRecDepth 100000 in
set_option maxHeartbeats 4000000 in
theorem plan_ok (id : Int) (bl sl jo pa lo ba : Nat) (b1 : 1 ≤ bl) (b2 : bl ≤ 4096) (s1 : 1 ≤ sl) (s2 : sl ≤ 1024) (j1 : 4 ≤ jo) (j2 : jo ≤ 1024) (l1 : 1 ≤ lo) (l2 : lo ≤ 1024) (a1 : 1 ≤ ba) (a2 : ba ≤ 64) (p1 : (sl - 1) / 4 + 1 ≤ pa) (p2 : pa ≤ 4096)
    (hz : 1 + 2 * pa + jo + lo + lo + lo + sl ≤ 4096) (w : World) :
    Calls Tryz.prog 14 #[.agg (superC id bl sl jo pa lo ba).toArray] w fun e w' => e = .returned (.tuple #[.agg (layC sl jo pa lo).toArray, .int .i64 0]) ∧ Below w.heap.size w w' := by
  have hg := heap_alloc_last w (.cells (superC id bl sl jo pa lo ba).toArray 40) rfl
  have k1 : (w.alloc (.cells (superC id bl sl jo pa lo ba).toArray 40)).cell? ⟨w.heap.size, 1, none⟩ = some (.int .i64 (bl : Int)) := cell_of_block hg 1
  have k2 : (w.alloc (.cells (superC id bl sl jo pa lo ba).toArray 40)).cell? ⟨w.heap.size, 2, none⟩ = some (.int .i64 (sl : Int)) := cell_of_block hg 2
  have k3 : (w.alloc (.cells (superC id bl sl jo pa lo ba).toArray 40)).cell? ⟨w.heap.size, 3, none⟩ = some (.int .i64 (jo : Int)) := cell_of_block hg 3
  have k4 : (w.alloc (.cells (superC id bl sl jo pa lo ba).toArray 40)).cell? ⟨w.heap.size, 4, none⟩ = some (.int .i64 (pa : Int)) := cell_of_block hg 4
  have k5 : (w.alloc (.cells (superC id bl sl jo pa lo ba).toArray 40)).cell? ⟨w.heap.size, 5, none⟩ = some (.int .i64 (lo : Int)) := cell_of_block hg 5
  have k6 : (w.alloc (.cells (superC id bl sl jo pa lo ba).toArray 40)).cell? ⟨w.heap.size, 6, none⟩ = some (.int .i64 (ba : Int)) := cell_of_block hg 6
  go_enter Tryz.func14, Tryz.ntmps14
  go_wp2_with fail
  have hua : Upd (fun _ => False) (w.alloc (.cells (superC id bl sl jo pa lo ba).toArray 40)) ((w.alloc (.cells (superC id bl sl jo pa lo ba).toArray 40)).alloc (.cells #[.int .i64 0, .int .i64 0, .int .i64 0, .int .i64 0, .int .i64 0, .int .i64 0, .int .i64 0] 43)) := (Upd.refl _ _).alloc _
  have hgl : ((w.alloc (.cells (superC id bl sl jo pa lo ba).toArray 40)).alloc (.cells #[.int .i64 0, .int .i64 0, .int .i64 0, .int .i64 0, .int .i64 0, .int .i64 0, .int .i64 0] 43)).heap[w.heap.size + 1]? = _ := heap_alloc_last _ _ (by simp)
  have hul : Upd (fun _ => False) w ((w.alloc (.cells (superC id bl sl jo pa lo ba).toArray 40)).alloc (.cells #[.int .i64 0, .int .i64 0, .int .i64 0, .int .i64 0, .int .i64 0, .int .i64 0, .int .i64 0] 43)) := ((Upd.refl _ w).alloc _).alloc _
  have hs2 : ((w.alloc (.cells (superC id bl sl jo pa lo ba).toArray 40)).alloc (.cells #[.int .i64 0, .int .i64 0, .int .i64 0, .int .i64 0, .int .i64 0, .int .i64 0, .int .i64 0] 43)).heap.size = w.heap.size + 2 := by simp
  replace k1 := hua.cellv k1 (fun h => h)
  replace k2 := hua.cellv k2 (fun h => h)
  replace k3 := hua.cellv k3 (fun h => h)
  replace k4 := hua.cellv k4 (fun h => h)
  replace k5 := hua.cellv k5 (fun h => h)
  replace k6 := hua.cellv k6 (fun h => h)
  generalize (w.alloc (.cells (superC id bl sl jo pa lo ba).toArray 40)).alloc (.cells #[.int .i64 0, .int .i64 0, .int .i64 0, .int .i64 0, .int .i64 0, .int .i64 0, .int .i64 0] 43) = w2 at *
  generalize hm : w.heap.size = m at *
  have HM := Lib.hid (And.intro hgl (And.intro hul hs2))
  clear hg hua hgl hul hs2
  go_region_held3 (fun W => W.cell? ⟨m, 1, none⟩ = some (.int .i64 (bl : Int)) ∧ W.cell? ⟨m, 2, none⟩ = some (.int .i64 (sl : Int)) ∧ W.cell? ⟨m, 3, none⟩ = some (.int .i64 (jo : Int)) ∧ W.cell? ⟨m, 4, none⟩ = some (.int .i64 (pa : Int)) ∧ W.cell? ⟨m, 5, none⟩ = some (.int .i64 (lo : Int)) ∧ W.cell? ⟨m, 6, none⟩ = some (.int .i64 (ba : Int)))
    ((go_split_ands; (simp only [World.cell?_drew] at *); ((repeat' constructor) <;> assumption)))
    (first | (go_at_call 53; refine (in_yes _ _ _ (by omega) (by omega) _).mono ?_; rintro e w' ⟨rfl, rfl⟩) | (go_at_call 54; refine (need_any _ s1 (by omega) _).mono ?_; rintro e w' ⟨rfl, rfl⟩))
  obtain ⟨hgl, hul, hs2⟩ := HM.out
  clear HM k1 k2 k3 k4 k5 k6
  rename_i hHeld
  obtain ⟨k1, k2, k3, k4, k5, k6⟩ := hHeld
  have hm2 : m < w2.drew.heap.size := by show _ < w2.heap.size; omega
  have hm3 : m + 1 < w2.drew.heap.size := by show _ < w2.heap.size; omega
  have hu : Upd (fun _ => False) w w2.drew := hul.drew
  replace hgl : w2.drew.heap[m + 1]? = _ := hgl
  replace hs2 : w2.drew.heap.size = m + 2 := hs2
  have HM := Lib.hid (And.intro hgl (And.intro hu hs2))
  clear hgl hul hs2 hu
  generalize w2.drew = w3 at *
  have hth : Hid (∀ X, (w3.alloc X).there (m + 1) 0 7) := by
    intro X j hj
    have hb : (w3.alloc X).heap[m + 1]? = _ := ((Upd.refl (fun _ => False) w3).alloc X).blockv HM.out.1
    rw [cell_of_block hb, frozen_of_block hb, Nat.zero_add]
    refine ⟨?_, rfl⟩
    rw [Array.getElem?_eq_getElem (by simpa using hj)]
    rfl
  go_upto_region 14 with fail
  have rA := range_of_block (heap_alloc_last w3 (.cells (layC sl jo pa lo).toArray 43) rfl)
  have hB : Below w.heap.size w (w3.alloc (.cells (layC sl jo pa lo).toArray 43)) := Upd.below ((HM.out.2.1).alloc _)
  have hth2 := hth.out (.cells (layC sl jo pa lo).toArray 43)
  clear k1 k2 k3 k4 k5 k6 HM hth
  generalize w3.alloc (.cells (layC sl jo pa lo).toArray 43) = w5 at *
  generalize w3.heap.size = m3 at *
  have h7 : (layC sl jo pa lo).length = 7 := rfl
  have h1 := layC_one sl jo pa lo
  have hE : (Value.tuple #[.agg (layC sl jo pa lo).toArray, .int .i64 0]) = Value.tuple #[.agg (layC sl jo pa lo).toArray, .int .i64 0] := rfl
  generalize hL : layC sl jo pa lo = L at *
  have hi : (Tryz.prog.info? 43).map (·.size) = some L.length := by rw [h7]; exact infoLay
  have hi2 : (Tryz.prog.info? 43).map (·.size) = some L.toArray.size := by rw [List.size_toArray, h7]; exact infoLay
  have hth3 : w5.there (m + 1) 0 L.toArray.size := by rw [List.size_toArray, h7]; exact hth2
  have hth4 : w5.there (m + 1) 0 L.length := by rw [h7]; exact hth2
  have HF := Lib.hid (And.intro hB (And.intro hth3 (And.intro hth4 (And.intro hi (And.intro hi2 h1)))))
  clear hB hth2 hth3 hth4 hi hi2 h1 h7 hE
  go_wp2_with (first
    | (refine wpList_load_mid rfl _ _ rfl _ _ rfl L _ rA Tryz.underlying43 rfl HF.out.2.2.2.1 ?_)
    | (refine wpList_store_mid rfl _ _ _ rfl (m + 1) 0 L.toArray rfl rfl HF.out.2.1 HF.out.2.2.2.2.1 HF.out.2.2.2.2.2 ?_)
    | fail)
  refine bodyPost_ret (results_mid2 rfl _ _ (m + 1) 0 L _ rfl (World.rangeAt_setCells_same _ _ _ _ HF.out.2.2.1) Tryz.underlying43 rfl HF.out.2.2.2.1) rfl ⟨by subst hL; rfl, below_upd (hm ▸ HF.out.1) (upd_row _ (m + 1) 0 _) (by omega) (fun k e => by omega)⟩
theorem mul64 (x y : Nat) (hx : x < 18446744073709551616) (hy : y < 18446744073709551616) (w : World) :
    Calls Tryz.prog 318 #[.int .u64 x, .int .u64 y] w fun e w' => e = .returned (.tuple #[.int .u64 ((x * y / 18446744073709551616 : Nat) : Int), .int .u64 ((x * y % 18446744073709551616 : Nat) : Int)]) ∧ w' = w := by
  obtain ⟨bd, bt, bw, hhi⟩ := Lib.mul64_hi x y hx hy
  have ba := Lib.half_mul_le (a := x / 4294967296) (b := y / 4294967296) (by omega) (by omega)
  have bb := Lib.half_mul_le (a := x / 4294967296) (b := y % 4294967296) (by omega) (by omega)
  have bc := Lib.half_mul_le (a := x % 4294967296) (b := y / 4294967296) (by omega) (by omega)
  have ba' : x / 4294967296 * (y / 4294967296) < 18446744073709551616 := by omega
  have bb' : x / 4294967296 * (y % 4294967296) < 18446744073709551616 := by omega
  have bc' : x % 4294967296 * (y / 4294967296) < 18446744073709551616 := by omega
  have bh1 : x / 4294967296 * (y / 4294967296) + (x / 4294967296 * (y % 4294967296) + x % 4294967296 * (y % 4294967296) / 4294967296) / 4294967296 < 18446744073709551616 := by omega
  have bh : x / 4294967296 * (y / 4294967296) + (x / 4294967296 * (y % 4294967296) + x % 4294967296 * (y % 4294967296) / 4294967296) / 4294967296 + ((x / 4294967296 * (y % 4294967296) + x % 4294967296 * (y % 4294967296) / 4294967296) % 4294967296 + x % 4294967296 * (y / 4294967296)) / 4294967296 < 18446744073709551616 := by omega
  go_enter Tryz.func318, Tryz.ntmps318
  go_wp2
  simp only [Mul64.maskN x hx, Mul64.maskN y hy, Mul64.divN, Mul64.mulN, Mul64.addN, Mul64.wrapN _ bd, Mul64.wrapN _ bb', Mul64.wrapN _ bt, Mul64.maskN _ bt, Mul64.wrapN _ bc', Mul64.wrapN _ bw, Mul64.wrapN _ ba', Mul64.wrapN _ bh1, Mul64.wrapN _ bh, Mul64.wrapM (x * y)]
  rw [hhi]
  go_ret2
  exact ⟨rfl, rfl⟩
theorem mul (x y : Nat) (hx : x < 18446744073709551616) (hy : y < 18446744073709551616) (w : World) :
    Calls Tryz.prog 270 #[.int .u64 x, .int .u64 y] w fun e w' => e = .returned (.tuple #[.int .u64 ((x * y / 18446744073709551616 : Nat) : Int), .int .u64 ((x * y % 18446744073709551616 : Nat) : Int)]) ∧ w' = w := by
  go_enter Tryz.func270, Tryz.ntmps270
  go_wp2_with fail
  refine (mul64 x y hx hy w).mono ?_
  rintro e w' ⟨rfl, rfl⟩
  go_wp2
  go_ret2
  exact ⟨rfl, rfl⟩
section
variable {P : Program}
theorem run_copy_rowk (w : World) (dT sT ty elem : TypeId) (k g o dLen dCap : Nat) (a : Addr) (sLen sCap : Nat) (cur : Array Value) (t : TypeId) (cs : List Value)
    (hu : P.underlying dT = some (.slice elem)) (hs : (P.info? elem).map (·.size) = some k)
    (hg : w.heap[g]? = some (.cells cur t (0, 0))) (hn : cs.length = Nat.min sLen dLen * k)
    (hsrc : ∀ j v, cs[j]? = some v → w.cell? (a.add j) = some v) (hfit : o + cs.length ≤ cur.size) (h1 : ∀ v ∈ cs, v.oneCell' = true) :
    (Builtin.copy_ #[dT, sT] ty #[.slice (some ⟨g, o, none⟩) dLen dCap, .slice (some a) sLen sCap]).run P w =
      .ok (goInt (Nat.min sLen dLen : Nat)) (w.setRow g (cur.toList.take o ++ cs ++ cur.toList.drop (o + cs.length)).toArray) := by
  have hl := run_loadCells_list (P := P) w a cs hsrc
  have hst := run_storeCells_at P g o t cs 0 cur w hg (by simpa using hfit) h1
  cases hq : P.info? elem with
  | none => simp [hq] at hs
  | some i =>
    have hi : i.size = k := by simpa [hq] using hs
    rw [hn] at hl
    simp [Builtin.copy_, run_underlying hu, Builtin.lenOf, Builtin.firstCells, sizeOf, typeInfo, hq, hi, hl, hst]
theorem copy_rowk (w : World) (dT sT elem : TypeId) (k g o dLen dCap : Nat) (a : Addr) (sLen sCap : Nat) (cur : Array Value) (t : TypeId) (cs : List Value)
    (hu : P.underlying dT = some (.slice elem)) (hs : (P.info? elem).map (·.size) = some k)
    (hg : w.heap[g]? = some (.cells cur t (0, 0))) (hn : cs.length = Nat.min sLen dLen * k)
    (hsrc : ∀ j v, cs[j]? = some v → w.cell? (a.add j) = some v) (hfit : o + cs.length ≤ cur.size) (h1 : ∀ v ∈ cs, v.oneCell' = true) :
    ∃ w', (∀ ty, (Builtin.copy_ #[dT, sT] ty #[.slice (some ⟨g, o, none⟩) dLen dCap, .slice (some a) sLen sCap]).run P w = .ok (goInt (Nat.min sLen dLen : Nat)) w') ∧
      w'.heap[g]? = some (.cells (cur.toList.take o ++ (cs ++ cur.toList.drop (o + cs.length))).toArray t (0, 0)) ∧ Upd (fun j => j = g) w w' ∧ w'.heap.size = w.heap.size :=
  ⟨_, fun ty => run_copy_rowk w dT sT ty elem k g o dLen dCap a sLen sCap cur t cs hu hs hg hn hsrc hfit h1, by rw [← List.append_assoc]; exact setRow_heap w g cur _ t _ hg, ⟨rfl, rfl, rfl, by simp [World.setRow], fun k _ hk => setRow_other w g k _ (fun e => hk e)⟩, by simp [World.setRow]⟩
end
def noPl (n : Nat) : List Value := (List.replicate n ()).flatMap fun _ => [.int .i64 (-1), .bool false]
theorem noPl_len (n : Nat) : (noPl n).length = n * 2 := by
  have := length_flat (f := fun _ : Unit => [Value.int .i64 (-1), Value.bool false]) (k := 2) (fun _ => rfl) (List.replicate n ())
  rw [List.length_replicate] at this; exact this
theorem noPl_add (a b : Nat) : noPl (a + b) = noPl a ++ noPl b := by
  simp only [noPl]
  rw [← List.replicate_append_replicate, List.flatMap_append]
theorem infoPlace : (Tryz.prog.info? 95).map (fun i => (i.zero, i.size, i.bytes)) = some (some (.agg #[.int .i64 0, .bool false]), 2, 16) := by kernel_rfl
set_option maxRecDepth 100000 in
theorem repeat_ok (n : Nat) (gx : Nat) (w : World) (h1 : 1 ≤ n) (h2 : n ≤ 4096) (hx : w.heap[gx]? = some (.cells #[.int .i64 (-1), .bool false] 95)) :
    Calls Tryz.prog 201 #[.slice (some ⟨gx, 0, none⟩) 1 1, .int .i64 n] w fun e w' => e = .returned (.slice (some ⟨w.heap.size, 0, none⟩) n n) ∧
      w'.heap[w.heap.size]? = some (.cells (noPl n).toArray 95) ∧ Below w.heap.size w w' ∧ w'.heap.size = w.heap.size + 1 := by
  obtain ⟨i0, hi, hz0, hz1, hz2⟩ := info_parts infoPlace
  have hmk : ∀ w : World, ∃ zs : List Value, zs.length = n * 2 ∧ (Instr.makeSlice 283 (.int .i64 n) (.int .i64 n)).run Tryz.prog w = .ok (.slice (some ⟨w.heap.size, 0, none⟩) n n) (w.alloc (.cells zs.toArray 95)) := by
    intro w
    have := run_make (P := Tryz.prog) w 283 95 i0 (.agg #[.int .i64 0, .bool false]) Tryz.underlying283 hi hz0 .i64 .i64 n n (by omega) (by omega) (by rw [hz2]; omega) (by omega)
    refine ⟨(madeCells #[.int .i64 0, .bool false] (n * 2)).toList, by simp [size_madeCells], ?_⟩
    rw [this]
    simp [hz1, Value.cells]
  obtain ⟨zs, hzl, hrun⟩ := hmk w
  have hn0 : ¬ (n : Int) < 0 := by omega
  clear hi hz0 hz1 hz2 hmk
  go_enter Tryz.func201, Tryz.ntmps201
  go_wp2_with fail
  refine (mul 1 n (by decide) (by omega) _).mono ?_
  rintro e w' ⟨rfl, rfl⟩
  rw [show 1 * n / 18446744073709551616 = 0 by omega, show 1 * n % 18446744073709551616 = n by omega]
  have hgx := lt_of_block hx
  have hA : (w'.alloc (.cells zs.toArray 95)).heap[w'.heap.size]? = some (.cells zs.toArray 95) := heap_alloc_last _ _ rfl
  have hxA : (w'.alloc (.cells zs.toArray 95)).heap[gx]? = some (.cells #[.int .i64 (-1), .bool false] 95) := (Below.heap_alloc _ _ _ hgx).trans hx
  have hS : (Tryz.prog.info? 95).map (·.size) = some 2 := by kernel_rfl
  have HA := Lib.hid hA; have HX := Lib.hid hxA; have HRUN := Lib.hid hrun
  clear hA hxA hx
  have hmn : Nat.min 1 n = 1 := Nat.min_eq_left h1
  have e1 : ([.int .i64 (-1), .bool false] : List Value).length = Nat.min 1 n * 2 := by rw [hmn]; rfl
  have e2 : ∀ (j : Nat) (v : Value), ([.int .i64 (-1), .bool false] : List Value)[j]? = some v → (w'.alloc (.cells zs.toArray 95)).cell? ((⟨gx, 0, none⟩ : Addr).add j) = some v := fun j v hj => by rw [Addr.add_lit, cell_of_block HX.out]; simpa using hj
  have e3 : 0 + ([.int .i64 (-1), .bool false] : List Value).length ≤ zs.toArray.size := by simp; omega
  obtain ⟨w2, hcp, hg2, hu2, hz2⟩ := copy_rowk (P := Tryz.prog) (w'.alloc (.cells zs.toArray 95)) 283 283 95 2 w'.heap.size 0 n n ⟨gx, 0, none⟩ 1 1 zs.toArray 95 [.int .i64 (-1), .bool false] Tryz.underlying283 hS HA.out e1 e2 e3 (by simp [Value.oneCell'])
  rw [hmn] at hcp
  clear e1 e2 e3
  have hg3 : w2.heap[w'.heap.size]? = some (.cells (noPl 1 ++ zs.drop 2).toArray 95) := by rw [hg2]; rfl
  have hB2 : Below w'.heap.size w' w2 := below_upd ((Below.refl _ _).alloc (Nat.le_refl _) _) hu2 (Nat.le_refl _) (fun j e => by omega)
  have hz3 : w2.heap.size = w'.heap.size + 1 := by rw [hz2]; simp
  clear hg2 hu2 hz2
  go_wp2
  clear hcp HX HRUN hrun
  go_loopg [8] (n - 1) (fun q i wr => ∃ (k : Nat) (rest : List Value), 1 ≤ k ∧ k ≤ n ∧ q = n - k ∧ i = .int .i64 k ∧ rest.length = (n - k) * 2 ∧ wr.heap[w'.heap.size]? = some (.cells (noPl k ++ rest).toArray 95) ∧ Below w'.heap.size w' wr ∧ wr.heap.size = w'.heap.size + 1)
  case atStart => exact ⟨1, zs.drop 2, by omega, h1, rfl, rfl, by simp; omega, hg3, hB2, hz3⟩
  case round =>
    clear hg3 hB2 hz3
    obtain ⟨k, rest, hk1, hkn, rfl, rfl, hrl, hg, hb, hz⟩ := hrel
    by_cases hlt : k < n
    · have hkk : noPl k = noPl (Nat.min k (n - k)) ++ noPl (k - Nat.min k (n - k)) := by rw [← noPl_add]; congr 1; have := Nat.min_le_left k (n - k); show k = min k (n - k) + _; have : min k (n - k) ≤ k := Nat.min_le_left _ _; show k = min k (n-k) + (k - min k (n-k)); omega
      obtain ⟨w3, hcp, hg4, hu4, hz4⟩ := copy_rowk (P := Tryz.prog) wr.drew 283 283 95 2 w'.heap.size (k * 2) (n - k) (n - k) ⟨w'.heap.size, 0, none⟩ k n (noPl k ++ rest).toArray 95 (noPl (Nat.min k (n - k))) Tryz.underlying283 hS hg (by rw [noPl_len])
        (fun j v hj => by
          rw [Addr.add_lit, cell_of_block (w := wr.drew) hg]
          have hjl := (List.getElem?_eq_some_iff.1 hj).1
          rw [hkk]
          simp only [List.getElem?_toArray, Nat.zero_add, List.append_assoc]
          rw [List.getElem?_append_left hjl]; exact hj)
        (by rw [noPl_len]; simp only [List.size_toArray, List.length_append, noPl_len, hrl]; have : Nat.min k (n - k) ≤ n - k := Nat.min_le_right _ _; omega) (by intro v hv; simp only [noPl, List.mem_flatMap] at hv; obtain ⟨_, _, hv⟩ := hv; simp at hv; rcases hv with rfl | rfl <;> simp [Value.oneCell'])
      go_wp2
      go_region
      obtain ⟨c, hce⟩ : ∃ c, c = Nat.min k (n - k) := ⟨_, rfl⟩
      rw [← hce] at hkk hg4
      have hc1 : 1 ≤ c := by rw [hce]; exact Nat.le_min.2 ⟨hk1, by omega⟩
      have hc2 : c ≤ n - k := by rw [hce]; exact Nat.min_le_right _ _
      have hg5 : w3.heap[w'.heap.size]? = some (.cells (noPl (k + c) ++ rest.drop (c * 2)).toArray 95) := by
        rw [hg4, noPl_add]
        have e1 : (noPl k ++ rest).toArray.toList.take (k * 2) = noPl k := by simp [noPl_len]
        have e2 : (noPl k ++ rest).toArray.toList.drop (k * 2 + (noPl c).length) = rest.drop (c * 2) := by
          rw [noPl_len]; show (noPl k ++ rest).drop (k * 2 + c * 2) = _
          rw [List.drop_append, noPl_len, List.drop_eq_nil_of_le (by rw [noPl_len]; omega)]
          simp
        rw [e1, e2, List.append_assoc]
      have hb3 : Below w'.heap.size w' w3 := below_upd hb (((Upd.refl _ wr).drew).trans hu4) (Nat.le_refl _) (fun j e => by omega)
      have hz5 : w3.heap.size = w'.heap.size + 1 := by rw [hz4]; exact hz
      rw [← hce]
      clear hg4 hu4 hz4 hg hb hz hcp hkk hce
      have hkc : k + c ≤ 4096 := by omega
      have hkc' : ∀ x : Int, x = (k : Int) + c → wrap64 x = ((k + c : Nat) : Int) := by intro x hx; subst hx; unfold wrap64; omega
      go_wp2
      go_roundg (n - (k + c))
      case measure => omega
      case rel => exact ⟨k + c, rest.drop (c * 2), by omega, by omega, rfl, by rw [hkc' _ rfl], by simp; omega, hg5, hb3, hz5⟩
    · obtain rfl : k = n := by omega
      obtain rfl : rest = [] := List.eq_nil_of_length_eq_zero (by omega)
      rw [List.append_nil] at hg
      go_wp2
      go_ret
      exact ⟨rfl, hg, hb, hz⟩
theorem need_nat (n : Nat) (h2 : n ≤ 100000) (w : World) : Calls Tryz.prog 54 #[.int .i64 (n : Int)] w fun e w' => e = .returned (.int .i64 (needN n : Int)) ∧ w = w' := by
  by_cases h1 : 1 ≤ n
  · exact need_any n h1 h2 w
  · obtain rfl : n = 0 := by omega
    go_enter Tryz.func54, Tryz.ntmps54
    go_wp2
    go_ret
    exact ⟨rfl, rfl⟩
theorem infoBl : (Tryz.prog.info? 54).map (fun i => (i.zero.map (·.cells.size), i.size, i.bytes)) = some (some 64, 64, 64) := by kernel_rfl
theorem infoBl_parts : ∃ i z, Tryz.prog.info? 54 = some i ∧ i.zero = some z ∧ z.cells.size = 64 ∧ i.size = 64 ∧ i.bytes = 64 := by
  obtain ⟨i, hi, h⟩ := Option.map_eq_some_iff.1 infoBl
  simp only [Prod.mk.injEq] at h
  obtain ⟨h1, h2, h3⟩ := h
  obtain ⟨z, hz, hs⟩ := Option.map_eq_some_iff.1 h1
  exact ⟨i, z, hi, hz, hs, h2, h3⟩
set_option maxRecDepth 100000 in
theorem run_row_bl (v : Value) (hv : v.cells.size = 64) (w : World) : (Instr.buildSlice 41 1 #[(0, v)]).run Tryz.prog w = .ok (.slice (some ⟨w.heap.size, 0, none⟩) 1 1) (w.alloc (.cells v.cells 54)) := by
  obtain ⟨i, z, hi, hz, hs, hsz, _⟩ := infoBl_parts
  refine run_buildSlice w _ _ 1 _ _ i z Tryz.underlying41 hi hz (by rw [hsz]; decide) (by rw [hsz]; decide) ?_
  obtain ⟨a1, a2⟩ := fold_cells 0 v.cells ((Array.range (1 * i.size)).map (z.cells[· % z.cells.size]!))
  rw [show (#[(0, v)] : Array (Nat × Value)).toList = [(0, v)] from rfl]
  rw [fill_step _ _ 0 0 64 v _ (by simp [hsz]) hv (by simp [hsz])]
  show some _ = _
  congr 1
  apply Array.ext_getElem?
  intro k
  rw [a2 k]
  by_cases hk : k < 64
  · rw [if_pos ⟨by omega, by omega, by simp [hsz]; omega⟩]; rfl
  · rw [if_neg (by omega), Array.getElem?_eq_none (by simp [hsz]; omega), Array.getElem?_eq_none (by omega)]
theorem pg_pad (seq no of m : Nat) (L : List Ent) (hL : L.length = m) (hm : m ≤ 4) (P0 : List Value) (h0 : P0 = [.int .i64 (seq : Int), .int .i64 (no : Int), .int .i64 (of : Int), .int .i64 (m : Int)] ++ (List.replicate 4 Ent.none).flatMap entC) :
    P0.take 4 ++ (L.flatMap entC ++ P0.drop (4 + (L.flatMap entC).length)) = pgC seq no of m (padE L) := by
  subst h0
  rw [ents_len, hL]
  have h1 : ([Value.int .i64 (seq : Int), .int .i64 (no : Int), .int .i64 (of : Int), .int .i64 (m : Int)] ++ (List.replicate 4 Ent.none).flatMap entC).drop (4 + m * 4) = (List.replicate (4 - m) Ent.none).flatMap entC := by
    have : m = 0 ∨ m = 1 ∨ m = 2 ∨ m = 3 ∨ m = 4 := by omega
    rcases this with rfl | rfl | rfl | rfl | rfl <;> rfl
  rw [h1, pgC, padE, hL, List.flatMap_append]
  rfl
def pg0 (seq k nd m : Nat) : Array Value := #[.int .i64 (seq : Int), .int .i64 (k : Int), .int .i64 (nd : Int), .int .i64 (m : Int), .int .i64 0, .int .i64 0, .bool false, .int .i64 0, .int .i64 0, .int .i64 0, .bool false, .int .i64 0, .int .i64 0, .int .i64 0, .bool false, .int .i64 0, .int .i64 0, .int .i64 0, .bool false, .int .i64 0]
theorem pg_copy {w : World} {b : Nat} {T : TypeId} (seq k nd m : Nat) (L : List Ent) (hL : L.length = m) (hm : m ≤ 4) (h : w.heap[b]? = some (.cells ((pg0 seq k nd m).toList.take 4 ++ (L.flatMap entC ++ (pg0 seq k nd m).toList.drop (4 + (L.flatMap entC).length))).toArray T (0, 0))) :
    w.heap[b]? = some (.cells (pgC seq k nd m (padE L)).toArray T (0, 0)) := by
  rw [h, pg_pad seq k nd m L hL hm (pg0 seq k nd m).toList rfl]
theorem pg0_size (seq k nd m : Nat) : (pg0 seq k nd m).size = 20 := rfl
theorem pgC_len (seq no of m : Nat) {L : List Ent} (h : L.length = 4) : (pgC seq no of m L).length = 20 := by
  rw [pgC, List.length_append, ents_len, h]; rfl
theorem part_range {w : World} {g o : Nat} {E : List Ent} (hr : w.rangeAt g o (E.flatMap entC)) (k : Nat) : w.rangeAt g (o + k * 4 * 4) ((partE E k).flatMap entC) := by
  have hd : ∀ (E : List Ent) (n : Nat), (E.drop n).flatMap entC = (E.flatMap entC).drop (n * 4) := by
    intro E
    induction E with
    | nil => intro n; simp
    | cons x E ih =>
      intro n
      cases n with
      | zero => simp
      | succ n => rw [List.drop_succ_cons, ih, List.flatMap_cons, show (n + 1) * 4 = (entC x).length + n * 4 by rw [entC_len]; omega, List.drop_length_add_append]
  have ht : ∀ (E : List Ent) (n : Nat), (E.take n).flatMap entC = (E.flatMap entC).take (n * 4) := by
    intro E
    induction E with
    | nil => intro n; simp
    | cons x E ih =>
      intro n
      cases n with
      | zero => simp
      | succ n => rw [List.take_succ_cons, List.flatMap_cons, ih, List.flatMap_cons, show (n + 1) * 4 = (entC x).length + n * 4 by rw [entC_len]; omega, List.take_length_add_append]
  intro j v hv
  rw [partE, ht, hd, List.getElem?_take] at hv
  split at hv
  · rw [List.getElem?_drop] at hv
    have := hr _ v hv
    rw [show o + k * 4 * 4 + j = o + (4 * k * 4 + j) by omega]
    exact this
  · cases hv
def BuildPost (w : World) (seq : Nat) (E : List Ent) (e : Ending) (w' : World) : Prop := ∃ v, e = .returned (.tuple #[v, .int .i64 0]) ∧ Sl w' 54 64 v (needN E.length) (rowC (pagesB seq E)) ∧ From w.heap.size v ∧ Below w.heap.size w w'
theorem need_zero (w : World) : Calls Tryz.prog 54 #[.int .i64 0] w fun e w' => e = .returned (.int .i64 1) ∧ w = w' := need_nat 0 (by omega) w
theorem run_copy_none {P : Program} (w : World) (dT sT ty elem : TypeId) (k g o : Nat) (dl dc : Nat) (hu : P.underlying dT = some (.slice elem)) (hs : (P.info? elem).map (·.size) = some k) :
    (Builtin.copy_ #[dT, sT] ty #[.slice (some ⟨g, o, none⟩) dl dc, .slice none 0 0]).run P w = .ok (.int .i64 0) w := by
  cases hq : P.info? elem with
  | none => simp [hq] at hs
  | some i => simp [Builtin.copy_, run_underlying hu, Builtin.lenOf, Builtin.firstCells, sizeOf, typeInfo, hq, storeCells, goInt]
theorem pg_nil (seq : Nat) : (pg0 seq 0 1 0) = (pgC seq 0 1 0 (padE (partE [] 0))).toArray := rfl
theorem wpList_build_pg {ops : Array Oper} {rest : List Oper} {op : Oper} {a : Act} {w : World} {Q : Exit → Act → World → Prop} (hgd : op.guard = none) (p q r s : Operand) (ho : op.op = .build 280 #[(0, p), (1, q), (2, r), (3, s)])
    (x k nd m : Nat) (hp : a.eval p = .int .i64 (x : Int)) (hq : a.eval q = .int .i64 (k : Int)) (hr : a.eval r = .int .i64 (nd : Int)) (hs : a.eval s = .int .i64 (m : Int)) (PG : Array Value) (hPG : PG = pg0 x k nd m)
    (h : wpList Tryz.prog ops Q rest (a.put op.dst (.agg PG)) w) : wpList Tryz.prog ops Q (op :: rest) a w := by
  have hrun : (Instr.build 280 #[(0, .int .i64 (x : Int)), (1, .int .i64 (k : Int)), (2, .int .i64 (nd : Int)), (3, .int .i64 (m : Int))]).run Tryz.prog w = .ok (.agg PG) w := by
    rw [hPG]; kernel_rfl
  refine wpList_plain hgd fun K' hK' => ?_
  unfold Oper.wp
  simp only [execOp, ho, List.map_toArray, List.map_cons, List.map_nil, hp, hq, hr, hs, Sem.run_bind, hrun, Result.andThen_ok]
  exact hK' _ _ h
set_option maxRecDepth 100000 in
theorem run_row_gen (ts te : TypeId) (k : Nat) (hk : 0 < k) (hu : Tryz.prog.underlying ts = some (.slice te)) (hinf : ∃ i z, Tryz.prog.info? te = some i ∧ i.zero = some z ∧ z.cells.size = k ∧ i.size = k) (v : Value) (hv : v.cells.size = k) (hb : k ≤ 1000) (w : World) :
    (Instr.buildSlice ts 1 #[(0, v)]).run Tryz.prog w = .ok (.slice (some ⟨w.heap.size, 0, none⟩) 1 1) (w.alloc (.cells v.cells te)) := by
  obtain ⟨i, z, hi, hz, hs, hsz⟩ := hinf
  refine run_buildSlice w _ _ 1 _ _ i z hu hi hz (by rw [hsz]; omega) (by rw [hsz]; omega) ?_
  obtain ⟨a1, a2⟩ := fold_cells 0 v.cells ((Array.range (1 * i.size)).map (z.cells[· % z.cells.size]!))
  rw [show (#[(0, v)] : Array (Nat × Value)).toList = [(0, v)] from rfl]
  rw [fill_step _ _ 0 0 k v _ (by simp [hsz]) hv (by simp [hsz])]
  show some _ = _
  congr 1
  apply Array.ext_getElem?
  intro j
  rw [a2 j]
  by_cases hj : j < k
  · rw [if_pos ⟨by omega, by omega, by simp [hsz]; omega⟩]; rfl
  · rw [if_neg (by omega), Array.getElem?_eq_none (by simp [hsz]; omega), Array.getElem?_eq_none (by omega)]
theorem wpList_row {ops : Array Oper} {rest : List Oper} {op : Oper} {a : Act} {w : World} {Q : Exit → Act → World → Prop} (hgd : op.guard = none) (ts te : TypeId) (p : Operand) (ho : op.op = .buildSlice ts 1 #[(0, p)]) (k : Nat) (hk : 0 < k)
    (hu : Tryz.prog.underlying ts = some (.slice te)) (hinf : ∃ i z, Tryz.prog.info? te = some i ∧ i.zero = some z ∧ z.cells.size = k ∧ i.size = k) (hb : k ≤ 1000) (cs : List Value) (hp : a.eval p = .agg cs.toArray) (hc : cs.length = k)
    (h : wpList Tryz.prog ops Q rest (a.put op.dst (.slice (some ⟨w.heap.size, 0, none⟩) 1 1)) (w.alloc (.cells cs.toArray te))) : wpList Tryz.prog ops Q (op :: rest) a w := by
  refine wpList_plain hgd fun K' hK' => ?_
  unfold Oper.wp
  have hrun := run_row_gen ts te k hk hu hinf (.agg cs.toArray) (by simpa [Value.cells] using hc) hb w
  simp only [execOp, ho, List.map_toArray, List.map_cons, List.map_nil, hp, Sem.run_bind, hrun, Result.andThen_ok]
  exact hK' _ _ h
theorem wpList_allocZ {ops : Array Oper} {rest : List Oper} {o : Oper} {a : Act} {w : World} {Q : Exit → Act → World → Prop} (hg : o.guard = none) (t : TypeId) (ho : o.op = .alloc t) (cs : Array Value)
    (hrun : ∀ w : World, (Instr.alloc t true (.tuple #[])).run Tryz.prog w = .ok (.pointer (some ⟨w.heap.size, 0, none⟩)) (w.alloc (.cells cs t)))
    (h : wpList Tryz.prog ops Q rest (a.put o.dst (.pointer (some ⟨w.heap.size, 0, none⟩))) (w.alloc (.cells cs t))) : wpList Tryz.prog ops Q (o :: rest) a w := by
  refine wpList_plain hg fun K' hK' => ?_
  unfold Oper.wp
  simp only [execOp, ho, Sem.run_bind, hrun, Result.andThen_ok]
  exact hK' _ _ h
theorem allocCert (w : World) : (Instr.alloc 159 true (.tuple #[])).run Tryz.prog w = .ok (.pointer (some ⟨w.heap.size, 0, none⟩)) (w.alloc (.cells [Value.int .i64 0, Value.int .i64 0, Value.int .i64 0, Value.int .i64 0, Value.int .i64 0, Value.int .i64 0].toArray 159)) := by
  kernel_rfl
theorem allocFail (w : World) : (Instr.alloc 165 true (.tuple #[])).run Tryz.prog w = .ok (.pointer (some ⟨w.heap.size, 0, none⟩)) (w.alloc (.cells [Value.int .i64 0, Value.int .i64 0, Value.int .i64 0, Value.int .i64 0, Value.int .i64 0, Value.int .i64 0, Value.int .i64 0, Value.int .i64 0, Value.int .i64 0, Value.int .i64 0, Value.int .i64 0, Value.int .i64 0, Value.int .i64 0].toArray 165)) := by
  kernel_rfl
def entX (xs : List Int) (i : Nat) : List Value := [.int .i64 ((rowI xs i).getD 0 0), .int .i64 ((rowI xs i).getD 1 0), .bool ((rowI xs i).getD 2 0 == 1), .int .i64 ((rowI xs i).getD 3 0)]
def entZ : List Value := [.int .i64 0, .int .i64 0, .bool false, .int .i64 0]
def dsPk (xs : List Int) (k : Nat) : List Value := [.int .i64 (xs.getD 0 0), .int .i64 (xs.getD 1 0), .int .i64 (xs.getD 2 0), .int .i64 (xs.getD 3 0)] ++ (List.range 4).flatMap fun i => if i < k then entX xs i else entZ
def dsP (xs : List Int) : List Value := dsPk xs 4
theorem dsPk_len (xs : List Int) (k : Nat) : (dsPk xs k).length = 20 := by
  have e : ∀ i, (if i < k then entX xs i else entZ).length = 4 := fun i => by split <;> rfl
  simp [dsPk, List.range_succ, e]
theorem dsPk_one (xs : List Int) (k : Nat) : ∀ v ∈ dsPk xs k, v.oneCell' = true := by
  intro v hv
  rcases List.mem_append.1 hv with hv | hv
  · simp only [List.mem_cons, List.not_mem_nil, or_false] at hv
    rcases hv with rfl | rfl | rfl | rfl <;> rfl
  · obtain ⟨i, -, hi⟩ := List.mem_flatMap.1 hv
    split at hi <;> (simp only [entX, entZ, List.mem_cons, List.not_mem_nil, or_false] at hi; rcases hi with rfl | rfl | rfl | rfl <;> rfl)
theorem dsP_len (xs : List Int) : (dsP xs).length = 20 := dsPk_len xs 4
theorem dsP_one (xs : List Int) : ∀ v ∈ dsP xs, v.oneCell' = true := dsPk_one xs 4
theorem dsPk_step (xs : List Int) {k : Nat} (hk : k < 4) : (dsPk xs k).take (4 + k * 4) ++ entX xs k ++ (dsPk xs k).drop (4 + k * 4 + 4) = dsPk xs (k + 1) := by
  rcases (show k = 0 ∨ k = 1 ∨ k = 2 ∨ k = 3 by omega) with rfl | rfl | rfl | rfl <;> rfl
theorem allocPg (w : World) : (Instr.alloc 280 true (.tuple #[])).run Tryz.prog w = .ok (.pointer (some ⟨w.heap.size, 0, none⟩)) (w.alloc (.cells (dsPk [] 0).toArray 280)) := by
  kernel_rfl
theorem buildPg0 (x0 x1 x2 x3 : Int) (W : World) : (Instr.build 280 #[(0, .int .i64 x0), (1, .int .i64 x1), (2, .int .i64 x2), (3, .int .i64 x3)]).run Tryz.prog W = .ok (.agg ([Value.int .i64 x0, .int .i64 x1, .int .i64 x2, .int .i64 x3] ++ (List.range 4).flatMap fun _ => entZ).toArray) W := by
  kernel_rfl
theorem setCells_list {cs' cs : Array Value} {vs : List Value} {o : Nat} (_hs : cs'.size = cs.size) (hl : o + vs.length ≤ cs.size) (h : ∀ j, cs'[j]? = if o ≤ j ∧ j < o + vs.length ∧ j < cs.size then vs[j - o]? else cs[j]?) : cs' = (cs.toList.take o ++ vs ++ cs.toList.drop (o + vs.length)).toArray := by
  apply Array.ext_getElem?
  intro j
  rw [h j]
  simp only [List.getElem?_toArray, List.append_assoc, List.getElem?_append, List.length_take, List.getElem?_take, List.getElem?_drop, Array.length_toList, Nat.min_eq_left (show o ≤ cs.size by omega), Array.getElem?_toList]
  by_cases h1 : j < o
  · rw [if_neg (by omega), if_pos h1, if_pos h1]
  · by_cases h2 : j < o + vs.length
    · rw [if_pos (by omega), if_neg h1, if_pos (by omega)]
    · rw [if_neg (by omega), if_neg h1, if_neg (by omega)]
      congr 1
      omega
theorem buildP_step {xs : List Int} {k : Nat} {w : World} {b : Nat} {T : TypeId} (hk : k < 4) (h : w.heap[b]? = some (.cells (dsPk xs k).toArray T (0, 0))) : (w.setCells b (4 + k * 4) (entX xs k)).heap[b]? = some (.cells (dsPk xs (k + 1)).toArray T (0, 0)) := by
  obtain ⟨cs', h1, h2, h3⟩ := heap_setCells_same (entX xs k) (4 + k * 4) w b (dsPk xs k).toArray T (0, 0) h
  rw [h1, setCells_list h2 (by rw [List.size_toArray, dsPk_len]; show 4 + k * 4 + 4 ≤ 20; omega) h3, ← dsPk_step xs hk]
  rfl
set_option maxRecDepth 100000 in
set_option maxHeartbeats 2000000 in
theorem buildP {w : World} {gl ol cl : Nat} (xs : List Int) (hxl : xs.length = 20) (hx : w.rangeAt gl ol (ints xs)) (hcl : 20 ≤ cl) (hcm : cl ≤ maxLen) :
    Calls Tryz.prog 310 (#[.slice (some ⟨gl, ol, none⟩) 20 cl] ++ #[]) w fun e w' => e = .returned (.agg (dsP xs).toArray) ∧ Below w.heap.size w w' := by
  have c0 := cellR hx 0 (by omega)
  have c1 := cellR hx 1 (by omega)
  have c2 := cellR hx 2 (by omega)
  have c3 := cellR hx 3 (by omega)
  rw [Nat.add_zero] at c0
  have hlt : gl < w.heap.size := World.block_lt_of_cell? w _ c0
  have h00 : dsPk xs 0 = [.int .i64 (xs.getD 0 0), .int .i64 (xs.getD 1 0), .int .i64 (xs.getD 2 0), .int .i64 (xs.getD 3 0)] ++ (List.range 4).flatMap fun _ => entZ := rfl
  have hbl := buildPg0 (xs.getD 0 0) (xs.getD 1 0) (xs.getD 2 0) (xs.getD 3 0)
  rw [← h00] at hbl
  have H0 := Lib.hid h00
  generalize xs.getD 0 0 = x0 at *
  generalize xs.getD 1 0 = x1 at *
  generalize xs.getD 2 0 = x2 at *
  generalize xs.getD 3 0 = x3 at *
  obtain ⟨Z, hZ⟩ : ∃ Z, Z = dsPk [] 0 := ⟨_, rfl⟩
  have hal := allocPg
  simp only [← hZ] at hal
  have hZl : Z.toArray.size = 20 := by rw [hZ, List.size_toArray, dsPk_len]
  obtain ⟨L, hL⟩ : ∃ L, L = dsPk xs 0 := ⟨_, rfl⟩
  rw [← hL] at hbl
  have hLl : L.toArray.size = 20 := by rw [hL, List.size_toArray, dsPk_len]
  have hLi : (Tryz.prog.info? 280).map (·.size) = some L.toArray.size := by rw [hLl]; exact infoPg
  have hL1 : ∀ v ∈ L, v.oneCell' = true := by rw [hL]; exact dsPk_one _ _
  obtain ⟨w1, hw1⟩ : ∃ w1, w1 = w.alloc (.cells Z.toArray 280) := ⟨_, rfl⟩
  have hu1 : Upd (fun _ => False) w w1 := by rw [hw1]; exact (Upd.refl _ w).alloc _
  have g1 : w1.heap[w.heap.size]? = some (.cells Z.toArray 280 (0, 0)) := by rw [hw1]; exact heap_alloc_last w _ rfl
  have z1 : w1.heap.size = w.heap.size + 1 := by rw [hw1]; simp
  have d0 := hu1.cellv c0 (fun h => h)
  have d1 := hu1.cellv c1 (fun h => h)
  have d2 := hu1.cellv c2 (fun h => h)
  have d3 := hu1.cellv c3 (fun h => h)
  have HW1 := Lib.hid hw1
  have HX := Lib.hid (And.intro hx (And.intro hxl (And.intro hcl (And.intro hcm (And.intro hu1 (And.intro g1 (And.intro z1 hL)))))))
  clear hx hxl hcl hcm hu1 g1 z1 hL hw1 c0 c1 c2 c3 hZ h00 H0
  go_enter Tryz.func310, Tryz.ntmps310
  go_wp2_with (first
    | (refine wpList_allocZ rfl _ rfl _ hal ?_)
    | fail)
  rw [← HW1.out]
  refine wp_region_held_drew (S := fun W => W.cell? ⟨gl, ol, none⟩ = some (.int .i64 x0) ∧ W.cell? ⟨gl, ol + 1, none⟩ = some (.int .i64 x1) ∧ W.cell? ⟨gl, ol + 2, none⟩ = some (.int .i64 x2) ∧ W.cell? ⟨gl, ol + 3, none⟩ = some (.int .i64 x3)) (by kernel_rfl) (by (simp only [World.cell?_drew]); exact ⟨d0, d1, d2, d3⟩) (fun hHeld => ?_)
  refine Wl.i [0, 1, 2, 3, 4, 5, 6, 7, 8, 9, 10, 11] ?_; iterate 12 refine Wl.t hHeld ?_
  refine Wl.o ?_
  refine wpAnyH_take (i := 12) (v := .agg L.toArray) rfl (by kernel_rfl) (by kernel_rfl) (by kernel_rfl) (fun _ _ _ h => h) (Or.inl ⟨by rfl, fun W _ => ?_⟩) hHeld ?_
  · simp only [List.getElem_toArray, List.getElem_cons_succ, List.getElem_cons_zero, execOp, Sem.run_bind, List.map_toArray, List.map_cons, List.map_nil]
    change ((Instr.build 280 #[(0, .int .i64 x0), (1, .int .i64 x1), (2, .int .i64 x2), (3, .int .i64 x3)]).run Tryz.prog W).andThen _ = _
    rw [hbl]; rfl
  simp only [List.getElem_toArray, List.getElem_cons_succ, List.getElem_cons_zero, Act.put, List.setIfInBounds_toArray, List.set_cons_zero, List.set_cons_succ]
  refine Wl.r 13 (fun K hK => ?_)
  rw [if_pos (by rfl)]
  unfold Oper.wp
  simp only [List.getElem_toArray, List.getElem_cons_succ, List.getElem_cons_zero, execOp, Sem.run_bind, hal, Result.andThen_ok]
  have hZg := heap_alloc_last w1.drew (.cells Z.toArray 280) rfl
  have hua := (Upd.refl (fun _ => False) w1.drew).alloc (.cells Z.toArray 280)
  obtain ⟨w2, hw2⟩ : ∃ w2, w2 = w1.drew.alloc (.cells Z.toArray 280) := ⟨_, rfl⟩
  rw [← hw2] at hZg hua ⊢
  simp only [World.size_drew] at hZg
  have e0 := hua.cellv hHeld.1 (fun h => h)
  have e1 := hua.cellv hHeld.2.1 (fun h => h)
  have e2 := hua.cellv hHeld.2.2.1 (fun h => h)
  have e3 := hua.cellv hHeld.2.2.2 (fun h => h)
  refine hK.out _ _ ⟨e0, e1, e2, e3⟩ (fun hH2 => ?_)
  clear hK K
  have hth : w2.there w1.heap.size 0 L.toArray.size := fun j hj => by
    rw [cell_of_block hZg, Nat.zero_add, Array.getElem?_eq_getElem (by rw [hZl, ← hLl]; exact hj)]
    exact ⟨rfl, frozen_of_block hZg _⟩
  refine Wl.r 14 (fun K hK => ?_)
  rw [if_pos (by rfl)]
  refine wp_store_mid _ _ _ rfl _ _ L.toArray rfl rfl hth hLi (all_oneCell_toArray hL1) ?_
  simp only [Act.put, List.setIfInBounds_toArray]
  have hus := upd_row w2 w1.heap.size 0 L
  have hgl1 : gl ≠ w1.heap.size := by have := HX.out.2.2.2.2.2.2.1; omega
  have g3 : (w2.setCells w1.heap.size 0 L).heap[w1.heap.size]? = some (.cells L.toArray 280 (0, 0)) := by
    obtain ⟨cs', q1, q2, q3⟩ := heap_setCells_same L 0 w2 w1.heap.size Z.toArray 280 (0, 0) hZg
    rw [q1, setCells_list q2 (by rw [hZl, ← hLl, List.size_toArray]; omega) q3]
    have : L.length = Z.toArray.size := by rw [hZl, ← hLl, List.size_toArray]
    rw [Nat.zero_add, List.take_zero, List.nil_append, List.drop_of_length_le (by rw [Array.length_toList]; omega), List.append_nil]
  obtain ⟨hx, hxl, hcl, hcm, hu1, g1, z1, hL⟩ := HX.out
  have hu12 : Upd (fun _ => False) w1 w2 := ((Upd.refl _ w1).drew).trans hua
  have g13 := (hus.block w.heap.size (by have := lt_of_block g1; have := hu12.size; omega) (by omega)).trans (hu12.blockv g1)
  have hu3 : Upd (fun j => j = w1.heap.size) w (w2.setCells w1.heap.size 0 L) := ((hu1.trans hu12).mono (fun _ _ h => h.elim)).trans hus
  refine hK.out _ _ ⟨hus.cellv hH2.1 hgl1, hus.cellv hH2.2.1 hgl1, hus.cellv hH2.2.2.1 hgl1, hus.cellv hH2.2.2.2 hgl1⟩ (fun _ => ?_)
  clear hK K
  refine Wl.d ?_
  rw [z1] at g3 hus hgl1 hu3 g13
  simp only [World.size_drew, z1]
  generalize w2.setCells (w.heap.size + 1) 0 L = w3 at *
  rw [hL] at g3
  have hxd := ((hu1.trans hu12).range hx (fun h => h))
  have hx3 := hus.range hxd hgl1
  have HZ := Lib.hid hZl
  have H3 := Lib.hid (And.intro hx3 (And.intro g3 (And.intro g13 (And.intro hu3 (And.intro hxl (And.intro hcl (And.intro hcm hgl1)))))))
  clear hx hxl hcl hcm hu1 g1 hL hus hZg hua e0 e1 e2 e3 hth hH2 hHeld hu12 g13 hu3 hxd hx3 g3 d0 d1 d2 d3 hw2 hal hbl hLl hLi hL1 hZl HX HW1 hgl1 z1
  go_wp2_with fail
  go_loopg [19] 4 (fun g s19 wr => ∃ k : Nat, k + g = 4 ∧ s19 = .int .i64 (k : Int) ∧ wr.heap[w.heap.size + 1]? = some (.cells (dsPk xs k).toArray 280 (0, 0)) ∧ Upd (fun j => j = w.heap.size + 1) w3 wr)
  case atStart => exact ⟨0, by omega, rfl, H3.out.2.1, Upd.refl _ _⟩
  case round =>
    obtain ⟨k, hk, rfl, hg, hu⟩ := hrel
    obtain ⟨hx3, g3, g13, hu3, hxl, hcl, hcm, hgl1⟩ := H3.out
    by_cases hlt : k < 4
    · have k1 : (k : Int) < 4 := by omega
      have k0 : (0 : Int) ≤ (k : Int) := by omega
      have HR := Lib.hid (row_any (hu.range hx3 hgl1) hxl hcl hcm k hlt)
      have hrl := rowI_len hxl hlt
      obtain ⟨a0, a1, a2, a3, hrow⟩ : ∃ a0 a1 a2 a3, rowI xs k = [a0, a1, a2, a3] := by
        match rowI xs k, hrl with
        | [a0, a1, a2, a3], _ => exact ⟨_, _, _, _, rfl⟩
      rw [hrow] at HR
      have hE : Hid (entX xs k = [.int .i64 a0, .int .i64 a1, .bool (a2 == 1), .int .i64 a3]) := by show _ = _; unfold entX; rw [hrow]; rfl
      have HG := Lib.hid (And.intro hg hu)
      clear hx3 g3 g13 hu3 hxl hcl hcm hgl1 hg hu hrl hrow
      go_wp2_with fail
      refine HR.out.mono ?_
      rintro e w4 ⟨rfl, hb4⟩
      have hua : Upd (fun _ => False) wr (w4.alloc (.cells #[.int .i64 a0, .int .i64 a1, .int .i64 a2, .int .i64 a3] 419)) := (Upd.of_below hb4).alloc _
      have hg5 := hua.blockv HG.out.1
      have hth : (w4.alloc (.cells #[.int .i64 a0, .int .i64 a1, .int .i64 a2, .int .i64 a3] 419)).there (w.heap.size + 1) (4 + k * 4) 4 := fun j hj => by
        rw [cell_of_block hg5, frozen_of_block hg5, Array.getElem?_eq_getElem (by rw [List.size_toArray, dsPk_len]; omega)]
        exact ⟨rfl, rfl⟩
      have HU := Lib.hid (And.intro hua hg5)
      obtain ⟨E, hEE⟩ : ∃ E : List Value, E = [.int .i64 a0, .int .i64 a1, .bool (a2 == 1), .int .i64 a3] := ⟨_, rfl⟩
      have hone : E.toArray.all (·.oneCell') = true := by rw [hEE]; simp [Value.oneCell']
      have hEn : (Tryz.prog.info? 37).map (·.size) = some E.toArray.size := by rw [hEE]; exact infoEn
      have hth' : (w4.alloc (.cells #[.int .i64 a0, .int .i64 a1, .int .i64 a2, .int .i64 a3] 419)).there (w.heap.size + 1) (4 + k * 4) E.toArray.size := by rw [hEE]; exact hth
      replace hth := hth'
      clear hua hg5 hb4
      simp only [ints, List.map_cons, List.map_nil]
      go_wp2_with (first
        | (refine wpList_store_new rfl _ _ _ rfl _ _ [Value.int .i64 a0, .int .i64 a1, .int .i64 a2, .int .i64 a3] rfl rfl rfl infoEy (by simp [Value.oneCell']) ?_)
        | (refine wpList_store_mid rfl _ _ _ rfl (w.heap.size + 1) (4 + k * 4) E.toArray rfl (by rw [hEE]; rfl) hth hEn hone ?_)
        | fail)
      obtain ⟨hua, hg5⟩ := HU.out
      have hgs := buildP_step hlt hg5
      rw [hE.out] at hgs
      have hu5 := (HG.out.2.trans (hua.mono (S' := fun j => j = w.heap.size + 1) (fun _ _ h => h.elim))).trans (upd_row (w4.alloc (.cells #[.int .i64 a0, .int .i64 a1, .int .i64 a2, .int .i64 a3] 419)) (w.heap.size + 1) (4 + k * 4) [Value.int .i64 a0, .int .i64 a1, .bool (a2 == 1), .int .i64 a3])
      generalize (w4.alloc (.cells #[.int .i64 a0, .int .i64 a1, .int .i64 a2, .int .i64 a3] 419)).setCells (w.heap.size + 1) (4 + k * 4) [Value.int .i64 a0, .int .i64 a1, .bool (a2 == 1), .int .i64 a3] = w6 at *
      have HX := Lib.hid (And.intro hgs hu5)
      clear hua hg5 hgs hu5 hth hth' hone hEn hEE HU
      go_roundg (gk - 1)
      case measure => omega
      case rel => exact ⟨k + 1, by omega, by go_num, HX.out.1, HX.out.2⟩
    · obtain rfl : k = 4 := by omega
      have k1 : ¬ (((4 : Nat) : Int) < 4) := by decide
      have h20 := dsP_len xs
      have h1 := dsP_one xs
      have hsz : (Tryz.prog.info? 280).map (·.size) = some (dsP xs).length := by rw [h20]; exact infoPg
      have hsz2 : (Tryz.prog.info? 280).map (·.size) = some (dsP xs).toArray.size := by rw [List.size_toArray, h20]; exact infoPg
      have r5 : wr.rangeAt (w.heap.size + 1) 0 (dsP xs) := range_of_block hg
      have g0 := (hu.block w.heap.size (lt_of_block g13) (by omega)).trans g13
      have hZl : Z.toArray.size = 20 := HZ.out
      have hth : wr.there w.heap.size 0 (dsP xs).toArray.size := fun j hj => by
        rw [cell_of_block g0, frozen_of_block g0, Array.getElem?_eq_getElem (by rw [List.size_toArray, h20] at hj; omega)]
        exact ⟨rfl, rfl⟩
      have hth2 : wr.there w.heap.size 0 (dsP xs).length := by rw [List.size_toArray] at hth; exact hth
      have hU := hu3.trans hu
      obtain ⟨D, hD⟩ : ∃ D, D = dsP xs := ⟨_, rfl⟩
      rw [← hD] at h20 h1 hsz hsz2 r5 hth hth2
      have HD := Lib.hid hD
      clear hD
      have HF := Lib.hid (And.intro hth2 (And.intro hsz hU))
      clear hx3 g3 g13 hu3 hxl hcl hcm hg hu hth2 hU h20 g0
      go_wp2_with (first
        | (refine wpList_load_mid rfl _ _ rfl _ _ rfl _ _ r5 Tryz.underlying280 rfl hsz ?_)
        | (refine wpList_store_mid rfl _ _ _ rfl w.heap.size 0 D.toArray rfl rfl hth hsz2 (all_oneCell_toArray h1) ?_)
        | fail)
      exact bodyPost_ret (results_mid1 rfl _ _ w.heap.size 0 D _ rfl (World.rangeAt_setCells_same _ _ _ _ HF.out.1) Tryz.underlying280 rfl HF.out.2.1) rfl
        ⟨by rw [HD.out], below_upd (Below.refl _ w) ((HF.out.2.2.mono (S' := fun j => j = w.heap.size + 1 ∨ j = w.heap.size) (fun _ _ h => .inl h)).trans ((upd_row wr w.heap.size 0 D).mono (fun _ _ h => .inr h))) (Nat.le_refl _) (fun k e => by omega)⟩
end Go.Proofs.YtfhfbpmlnjdfoaaGreatDoor
