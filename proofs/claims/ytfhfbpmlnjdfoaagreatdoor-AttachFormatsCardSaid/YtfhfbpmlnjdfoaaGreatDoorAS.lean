/- Contracts of the library, laid at this program by the kit's tool. A row of things of k cells, as the library's sort takes and leaves it. The library's sort of nothing. -/
import Derived.Shelf.SlSortCmp.WholeK
import Derived.Shelf.SlicesG.Cmp
import Derived.Shelf.Small.Bits
import Derived.Test.YtfhfbpmlnjdfoaaGreatDoorA01
namespace Go.Proofs.YtfhfbpmlnjdfoaaGreatDoor
open Go Go.Shelf
def sortRec_ren : Go.Shelf.Ren := ⟨fun | 6 => 108 | 15 => 118 | 14 => 179 | 28 => 189 | 29 => 190 | 20 => 254 | 21 => 255 | 22 => 256 | 23 => 257 | 24 => 258 | 25 => 259 | 26 => 260 | 27 => 261 | 46 => 312 | 47 => 264 | 48 => 265 | 49 => 313 | 50 => 314 | 57 => 336 | n => n, fun | 22 => 23 | 24 => 101 | 25 => 199 | 3 => 3 | 39 => 209 | 0 => 0 | 53 => 310 | 55 => 312 | 4 => 4 | 46 => 303 | 45 => 302 | 50 => 307 | 5 => 5 | 9 => 9 | 66 => 389 | 70 => 393 | 76 => 424 | 77 => 425 | n => n, fun | n => n⟩
theorem sortRec : SlLaysF0.n6 Tryz.prog sortRec_ren := {
  mixed := by kernel_rfl
  f6 := ⟨Tryz.f108.name, by decide, Tryz.func108.trans (congrArg some (by kernel_rfl))⟩
  f14 := ⟨Tryz.f179.name, by decide, Tryz.func179.trans (congrArg some (by kernel_rfl))⟩
  f15 := Tryz.func118.trans (congrArg some (by kernel_rfl))
  f20 := ⟨Tryz.f254.name, by decide, Tryz.func254.trans (congrArg some (by kernel_rfl))⟩
  f21 := ⟨Tryz.f255.name, by decide, Tryz.func255.trans (congrArg some (by kernel_rfl))⟩
  f22 := ⟨Tryz.f256.name, by decide, Tryz.func256.trans (congrArg some (by kernel_rfl))⟩
  f23 := ⟨Tryz.f257.name, by decide, Tryz.func257.trans (congrArg some (by kernel_rfl))⟩
  f24 := ⟨Tryz.f258.name, by decide, Tryz.func258.trans (congrArg some (by kernel_rfl))⟩
  f25 := ⟨Tryz.f259.name, by decide, Tryz.func259.trans (congrArg some (by kernel_rfl))⟩
  f26 := ⟨Tryz.f260.name, by decide, Tryz.func260.trans (congrArg some (by kernel_rfl))⟩
  f27 := ⟨Tryz.f261.name, by decide, Tryz.func261.trans (congrArg some (by kernel_rfl))⟩
  f28 := Tryz.func189.trans (congrArg some (by kernel_rfl))
  f29 := Tryz.func190.trans (congrArg some (by kernel_rfl))
  f46 := ⟨Tryz.f312.name, by decide, Tryz.func312.trans (congrArg some (by kernel_rfl))⟩
  f47 := Tryz.func264.trans (congrArg some (by kernel_rfl))
  f48 := Tryz.func265.trans (congrArg some (by kernel_rfl))
  f49 := ⟨Tryz.f313.name, by decide, Tryz.func313.trans (congrArg some (by kernel_rfl))⟩
  f50 := ⟨Tryz.f314.name, by decide, Tryz.func314.trans (congrArg some (by kernel_rfl))⟩
  f57 := ⟨Tryz.f336.name, by decide, Tryz.func336.trans (congrArg some (by kernel_rfl))⟩
  t0 := Tryz.underlying0
  a0 := Tryz.isAgg0
  z0 := Tryz.sizeOf0
  v0 := Tryz.zeroValue0
  t3 := Tryz.underlying3
  a3 := Tryz.isAgg3
  z3 := Tryz.sizeOf3
  v3 := Tryz.zeroValue3
  t4 := Tryz.underlying4
  a4 := Tryz.isAgg4
  z4 := Tryz.sizeOf4
  v4 := Tryz.zeroValue4
  t5 := Tryz.underlying5
  a5 := Tryz.isAgg5
  z5 := Tryz.sizeOf5
  v5 := Tryz.zeroValue5
  t9 := Tryz.underlying9
  a9 := Tryz.isAgg9
  z9 := Tryz.sizeOf9
  v9 := Tryz.zeroValue9
  t22 := Tryz.underlying23
  a22 := Tryz.isAgg23
  z22 := Tryz.sizeOf23
  v22 := Tryz.zeroValue23
  t25 := Tryz.underlying199
  a25 := Tryz.isAgg199
  z25 := Tryz.sizeOf199
  v25 := Tryz.zeroValue199
  t39 := Tryz.underlying209
  a39 := Tryz.isAgg209
  z39 := Tryz.sizeOf209
  v39 := Tryz.zeroValue209
  t45 := Tryz.underlying302
  a45 := Tryz.isAgg302
  z45 := Tryz.sizeOf302
  v45 := Tryz.zeroValue302
  t46 := Tryz.underlying303
  a46 := Tryz.isAgg303
  z46 := Tryz.sizeOf303
  v46 := Tryz.zeroValue303
  t50 := Tryz.underlying307
  a50 := Tryz.isAgg307
  z50 := Tryz.sizeOf307
  v50 := Tryz.zeroValue307
  t53 := Tryz.underlying310
  a53 := Tryz.isAgg310
  z53 := Tryz.sizeOf310
  v53 := Tryz.zeroValue310
  t55 := Tryz.underlying312
  a55 := Tryz.isAgg312
  z55 := Tryz.sizeOf312
  v55 := Tryz.zeroValue312
  t66 := Tryz.underlying389
  a66 := Tryz.isAgg389
  z66 := Tryz.sizeOf389
  v66 := Tryz.zeroValue389
  t70 := Tryz.underlying393
  a70 := Tryz.isAgg393
  z70 := Tryz.sizeOf393
  v70 := Tryz.zeroValue393
  t76 := Tryz.underlying424
  a76 := Tryz.isAgg424
  z76 := Tryz.sizeOf424
  v76 := Tryz.zeroValue424
  t77 := Tryz.underlying425
  a77 := Tryz.isAgg425
  z77 := Tryz.sizeOf425
  v77 := Tryz.zeroValue425 }
def sortEnt_ren : Go.Shelf.Ren := ⟨fun | 6 => 50 | 15 => 118 | 14 => 117 | 28 => 189 | 29 => 190 | 20 => 181 | 21 => 182 | 22 => 183 | 23 => 184 | 24 => 185 | 25 => 186 | 26 => 187 | 27 => 188 | 46 => 263 | 47 => 264 | 48 => 265 | 49 => 266 | 50 => 267 | 57 => 315 | n => n, fun | 22 => 22 | 24 => 37 | 25 => 119 | 3 => 3 | 39 => 209 | 0 => 0 | 53 => 310 | 55 => 312 | 4 => 4 | 46 => 303 | 45 => 302 | 50 => 307 | 5 => 5 | 9 => 9 | 66 => 389 | 70 => 393 | 76 => 424 | 77 => 425 | n => n, fun | n => n⟩
theorem sortEnt : SlLaysF0.n6 Tryz.prog sortEnt_ren := {
  mixed := by kernel_rfl
  f6 := ⟨Tryz.f50.name, by decide, Tryz.func50.trans (congrArg some (by kernel_rfl))⟩
  f14 := ⟨Tryz.f117.name, by decide, Tryz.func117.trans (congrArg some (by kernel_rfl))⟩
  f15 := Tryz.func118.trans (congrArg some (by kernel_rfl))
  f20 := ⟨Tryz.f181.name, by decide, Tryz.func181.trans (congrArg some (by kernel_rfl))⟩
  f21 := ⟨Tryz.f182.name, by decide, Tryz.func182.trans (congrArg some (by kernel_rfl))⟩
  f22 := ⟨Tryz.f183.name, by decide, Tryz.func183.trans (congrArg some (by kernel_rfl))⟩
  f23 := ⟨Tryz.f184.name, by decide, Tryz.func184.trans (congrArg some (by kernel_rfl))⟩
  f24 := ⟨Tryz.f185.name, by decide, Tryz.func185.trans (congrArg some (by kernel_rfl))⟩
  f25 := ⟨Tryz.f186.name, by decide, Tryz.func186.trans (congrArg some (by kernel_rfl))⟩
  f26 := ⟨Tryz.f187.name, by decide, Tryz.func187.trans (congrArg some (by kernel_rfl))⟩
  f27 := ⟨Tryz.f188.name, by decide, Tryz.func188.trans (congrArg some (by kernel_rfl))⟩
  f28 := Tryz.func189.trans (congrArg some (by kernel_rfl))
  f29 := Tryz.func190.trans (congrArg some (by kernel_rfl))
  f46 := ⟨Tryz.f263.name, by decide, Tryz.func263.trans (congrArg some (by kernel_rfl))⟩
  f47 := Tryz.func264.trans (congrArg some (by kernel_rfl))
  f48 := Tryz.func265.trans (congrArg some (by kernel_rfl))
  f49 := ⟨Tryz.f266.name, by decide, Tryz.func266.trans (congrArg some (by kernel_rfl))⟩
  f50 := ⟨Tryz.f267.name, by decide, Tryz.func267.trans (congrArg some (by kernel_rfl))⟩
  f57 := ⟨Tryz.f315.name, by decide, Tryz.func315.trans (congrArg some (by kernel_rfl))⟩
  t0 := Tryz.underlying0
  a0 := Tryz.isAgg0
  z0 := Tryz.sizeOf0
  v0 := Tryz.zeroValue0
  t3 := Tryz.underlying3
  a3 := Tryz.isAgg3
  z3 := Tryz.sizeOf3
  v3 := Tryz.zeroValue3
  t4 := Tryz.underlying4
  a4 := Tryz.isAgg4
  z4 := Tryz.sizeOf4
  v4 := Tryz.zeroValue4
  t5 := Tryz.underlying5
  a5 := Tryz.isAgg5
  z5 := Tryz.sizeOf5
  v5 := Tryz.zeroValue5
  t9 := Tryz.underlying9
  a9 := Tryz.isAgg9
  z9 := Tryz.sizeOf9
  v9 := Tryz.zeroValue9
  t22 := Tryz.underlying22
  a22 := Tryz.isAgg22
  z22 := Tryz.sizeOf22
  v22 := Tryz.zeroValue22
  t25 := Tryz.underlying119
  a25 := Tryz.isAgg119
  z25 := Tryz.sizeOf119
  v25 := Tryz.zeroValue119
  t39 := Tryz.underlying209
  a39 := Tryz.isAgg209
  z39 := Tryz.sizeOf209
  v39 := Tryz.zeroValue209
  t45 := Tryz.underlying302
  a45 := Tryz.isAgg302
  z45 := Tryz.sizeOf302
  v45 := Tryz.zeroValue302
  t46 := Tryz.underlying303
  a46 := Tryz.isAgg303
  z46 := Tryz.sizeOf303
  v46 := Tryz.zeroValue303
  t50 := Tryz.underlying307
  a50 := Tryz.isAgg307
  z50 := Tryz.sizeOf307
  v50 := Tryz.zeroValue307
  t53 := Tryz.underlying310
  a53 := Tryz.isAgg310
  z53 := Tryz.sizeOf310
  v53 := Tryz.zeroValue310
  t55 := Tryz.underlying312
  a55 := Tryz.isAgg312
  z55 := Tryz.sizeOf312
  v55 := Tryz.zeroValue312
  t66 := Tryz.underlying389
  a66 := Tryz.isAgg389
  z66 := Tryz.sizeOf389
  v66 := Tryz.zeroValue389
  t70 := Tryz.underlying393
  a70 := Tryz.isAgg393
  z70 := Tryz.sizeOf393
  v70 := Tryz.zeroValue393
  t76 := Tryz.underlying424
  a76 := Tryz.isAgg424
  z76 := Tryz.sizeOf424
  v76 := Tryz.zeroValue424
  t77 := Tryz.underlying425
  a77 := Tryz.isAgg425
  z77 := Tryz.sizeOf425
  v77 := Tryz.zeroValue425 }
def cmpInt_ren : Go.Shelf.Ren := ⟨fun | 5 => 52 | 7 => 119 | n => n, fun | 22 => 3 | 3 => 3 | 4 => 4 | n => n, fun | n => n⟩
theorem cmpInt : SlLaysC2.n5 Tryz.prog cmpInt_ren := {
  mixed := by kernel_rfl
  f5 := ⟨Tryz.f52.name, by decide, Tryz.func52.trans (congrArg some (by kernel_rfl))⟩
  f7 := ⟨Tryz.f119.name, by decide, Tryz.func119.trans (congrArg some (by kernel_rfl))⟩
  t3 := Tryz.underlying3
  a3 := Tryz.isAgg3
  z3 := Tryz.sizeOf3
  v3 := Tryz.zeroValue3
  t4 := Tryz.underlying4
  a4 := Tryz.isAgg4
  z4 := Tryz.sizeOf4
  v4 := Tryz.zeroValue4
  t22 := Tryz.underlying3
  a22 := Tryz.isAgg3
  z22 := Tryz.sizeOf3
  v22 := Tryz.zeroValue3 }
end Go.Proofs.YtfhfbpmlnjdfoaaGreatDoor
namespace Go.Proofs.YtfhfbpmlnjdfoaaGreatDoor
open Go Go.RowKit Go.Shelf Go.Lib Go.Sort
variable {α : Type} [Inhabited α]
theorem flat_get (enc : α → List Value) {k : Nat} (hk : ∀ x, (enc x).length = k) (h0 : 0 < k) : ∀ (L : List α) (j : Nat), j < L.length * k → (L.flatMap enc)[j]? = some ((enc L.toArray[j / k]!)[j % k]!)
  | [], j, h => by simp at h
  | x :: L, j, h => by
    rw [List.flatMap_cons]
    by_cases hj : j < k
    · rw [List.getElem?_append_left (by rw [hk]; exact hj), Nat.div_eq_of_lt hj, Nat.mod_eq_of_lt hj, List.getElem?_eq_getElem (by rw [hk]; exact hj)]
      simp [hk, hj]
    · rw [List.getElem?_append_right (by rw [hk]; omega), hk, flat_get enc hk h0 L (j - k) (by simp [Nat.succ_mul] at h; omega)]
      have e1 : j / k = (j - k) / k + 1 := by rw [← Nat.add_div_right _ h0, Nat.sub_add_cancel (by omega)]
      have e2 : j % k = (j - k) % k := by rw [← Nat.add_mod_right (j - k) k, Nat.sub_add_cancel (by omega)]
      rw [e1, e2]
      have : (x :: L).toArray[(j - k) / k + 1]! = L.toArray[(j - k) / k]! := by simp
      rw [this]
theorem holds_sl {w : World} {e : TypeId} {enc : α → List Value} {k : Nat} (hk : ∀ x, (enc x).length = k) (h0 : 0 < k) {g off cap : Nat} {L : List α} (h : Sl w e k (.slice (some ⟨g, off, none⟩) L.length cap) L.length (L.flatMap enc)) : HoldsK enc k w g off L.toArray := by
  obtain ⟨hl, ⟨hv, -⟩ | ⟨g', off', cap', cur, hv, hg, -, -, -, hc⟩⟩ := h
  · cases hv
  · cases hv
    intro j hj
    rw [size_flatK] at hj
    simp only [List.size_toArray] at hj
    refine ⟨?_, frozen_of_block hg _⟩
    rw [cell_of_block hg, get_flatK _ _ _ _ (by simpa using hj)]
    exact hc j _ (flat_get enc hk h0 L j hj)
theorem sorted_sl {w : World} {e : TypeId} {enc : α → List Value} {k : Nat} (hk : ∀ x, (enc x).length = k) (h0 : 0 < k) {g off cap : Nat} {L : List α} (h : Sl w e k (.slice (some ⟨g, off, none⟩) L.length cap) L.length (L.flatMap enc)) (d : Array α) (hd : d.size = L.length) (n : Nat) (os : Array Obj) :
    Sl (sortWorldK enc k w g off n d os) e k (.slice (some ⟨g, off, none⟩) L.length cap) L.length (d.toList.flatMap enc) ∧ Upd (fun j => j = g) w (sortWorldK enc k w g off n d os) := by
  obtain ⟨hl, ⟨hv, -⟩ | ⟨g', off', cap', cur, hv, hg, hnc, hcm, hsz, hc⟩⟩ := h
  · cases hv
  · cases hv
    have hgl := lt_of_block hg
    have hgl' : g < (w.heap.modify g (onCells (putCells id off (flatK enc k d)))).size := by simpa using hgl
    have hheap : (sortWorldK enc k w g off n d os).heap = w.heap.modify g (onCells (putCells id off (flatK enc k d))) ++ os := rfl
    have hb : (sortWorldK enc k w g off n d os).heap[g]? = some (.cells (putCells id off (flatK enc k d) cur) e (0, 0)) := by
      rw [hheap, Array.getElem?_append_left hgl', Array.getElem?_modify, if_pos rfl, hg]; rfl
    have hlen : (d.toList.flatMap enc).length = L.length * k := by rw [length_flat (f := enc) hk, Array.length_toList, hd]
    refine ⟨⟨hlen, .inr ⟨g, off, cap, _, rfl, hb, hnc, hcm, by simpa [putCells] using hsz, fun j u hj => ?_⟩⟩, rfl, rfl, rfl, by rw [hheap]; simp, fun i hi hs => ?_⟩
    · have hjl : j < L.length * k := by rw [← hlen]; exact (List.getElem?_eq_some_iff.1 hj).1
      have hf := flat_get enc hk h0 d.toList j (by rw [Array.length_toList, hd]; exact hjl)
      rw [hf] at hj
      have hoc : off + j < cur.size := by have := Nat.mul_le_mul_right k hnc; omega
      simp only [putCells, Array.getElem?_mapIdx, Array.getElem?_eq_getElem hoc, Option.map_some]
      rw [if_pos ⟨by omega, by rw [size_flatK, hd]; omega⟩, Nat.add_sub_cancel_left, get_flatK _ _ _ _ (by rw [hd]; exact hjl)]
      simpa using hj
    · rw [hheap, Array.getElem?_append_left (by simpa using hi), Array.getElem?_modify, if_neg (fun e => hs e.symm)]
end Go.Proofs.YtfhfbpmlnjdfoaaGreatDoor
namespace Go.Proofs.YtfhfbpmlnjdfoaaGreatDoor
open Go Go.RowKit Go.Shelf
set_option maxRecDepth 100000 in
theorem ins_nilR (c : Value) (w : World) : Calls Tryz.prog 254 #[.slice none 0 0, .int .i64 0, .int .i64 0, c] w fun e w' => e = .returned (.tuple #[]) ∧ w' = w := by
  go_enter Tryz.func254, Tryz.ntmps254
  go_wp2
  go_loopg [8] 0 (fun g s8 wr => s8 = .int .i64 1 ∧ wr = w)
  case atStart => exact ⟨rfl, rfl⟩
  case round =>
    obtain ⟨rfl, rfl⟩ := hrel
    go_wp2
    go_end0
    exact ⟨rfl, rfl⟩
set_option maxRecDepth 100000 in
theorem pdq_nilR (c : Value) (l : Int) (w : World) : Calls Tryz.prog 179 #[.slice none 0 0, .int .i64 0, .int .i64 0, .int .i64 l, c] w fun e w' => e = .returned (.tuple #[]) ∧ w' = w := by
  go_enter Tryz.func179, Tryz.ntmps179
  go_wp2
  go_loopg [1, 2, 3, 10, 11] 0 (fun g s1 s2 s3 s10 s11 wr => s1 = .int .i64 0 ∧ s2 = .int .i64 0 ∧ wr = w)
  case atStart => exact ⟨rfl, rfl, rfl⟩
  case round =>
    obtain ⟨rfl, rfl, rfl⟩ := hrel
    go_wp2_with (first | (go_at_call 254; refine (ins_nilR c _).mono ?_; rintro e w' ⟨rfl, rfl⟩) | fail)
    exact bodyPost_ret (results_none rfl _ _ _) rfl ⟨rfl, rfl⟩
set_option maxRecDepth 100000 in
theorem sort_nilR (c : Value) (w : World) : Calls Tryz.prog 108 #[.slice none 0 0, c] w fun e w' => e = .returned (.tuple #[]) ∧ w' = w := by
  have hl : Calls Tryz.prog 118 #[.int .u64 0] w fun e w' => e = .returned (.int .i64 (Lib.bitLen 0 : Nat)) ∧ w' = w := Any.bits_Len (SlLaysF0.n15.bits (P := Tryz.prog) (ρ := sortRec_ren) { sortRec with }) 0 w (by omega) (by omega)
  go_enter Tryz.func108, Tryz.ntmps108
  go_wp2_with (first
    | (go_at_call 118; refine hl.mono ?_; rintro e w' ⟨rfl, rfl⟩)
    | (go_at_call 179; refine (pdq_nilR c _ _).mono ?_; rintro e w' ⟨rfl, rfl⟩)
    | fail)
  go_end0
  exact ⟨rfl, rfl⟩
set_option maxRecDepth 100000 in
theorem ins_nilE (c : Value) (w : World) : Calls Tryz.prog 181 #[.slice none 0 0, .int .i64 0, .int .i64 0, c] w fun e w' => e = .returned (.tuple #[]) ∧ w' = w := by
  go_enter Tryz.func181, Tryz.ntmps181
  go_wp2
  go_loopg [8] 0 (fun g s8 wr => s8 = .int .i64 1 ∧ wr = w)
  case atStart => exact ⟨rfl, rfl⟩
  case round =>
    obtain ⟨rfl, rfl⟩ := hrel
    go_wp2
    go_end0
    exact ⟨rfl, rfl⟩
set_option maxRecDepth 100000 in
theorem pdq_nilE (c : Value) (l : Int) (w : World) : Calls Tryz.prog 117 #[.slice none 0 0, .int .i64 0, .int .i64 0, .int .i64 l, c] w fun e w' => e = .returned (.tuple #[]) ∧ w' = w := by
  go_enter Tryz.func117, Tryz.ntmps117
  go_wp2
  go_loopg [1, 2, 3, 10, 11] 0 (fun g s1 s2 s3 s10 s11 wr => s1 = .int .i64 0 ∧ s2 = .int .i64 0 ∧ wr = w)
  case atStart => exact ⟨rfl, rfl, rfl⟩
  case round =>
    obtain ⟨rfl, rfl, rfl⟩ := hrel
    go_wp2_with (first | (go_at_call 181; refine (ins_nilE c _).mono ?_; rintro e w' ⟨rfl, rfl⟩) | fail)
    exact bodyPost_ret (results_none rfl _ _ _) rfl ⟨rfl, rfl⟩
set_option maxRecDepth 100000 in
theorem sort_nilE (c : Value) (w : World) : Calls Tryz.prog 50 #[.slice none 0 0, c] w fun e w' => e = .returned (.tuple #[]) ∧ w' = w := by
  have hl : Calls Tryz.prog 118 #[.int .u64 0] w fun e w' => e = .returned (.int .i64 (Lib.bitLen 0 : Nat)) ∧ w' = w := Any.bits_Len (SlLaysF0.n15.bits (P := Tryz.prog) (ρ := sortEnt_ren) { sortEnt with }) 0 w (by omega) (by omega)
  go_enter Tryz.func50, Tryz.ntmps50
  go_wp2_with (first
    | (go_at_call 118; refine hl.mono ?_; rintro e w' ⟨rfl, rfl⟩)
    | (go_at_call 117; refine (pdq_nilE c _ _).mono ?_; rintro e w' ⟨rfl, rfl⟩)
    | fail)
  go_end0
  exact ⟨rfl, rfl⟩
end Go.Proofs.YtfhfbpmlnjdfoaaGreatDoor
