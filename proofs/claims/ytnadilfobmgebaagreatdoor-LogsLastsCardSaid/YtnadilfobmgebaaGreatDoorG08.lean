/- Slots: contracts of the code's functions, and of the document's. 'slices.Repeat' of one place; 'math/bits.Mul'. -/
import Derived.Test.YtnadilfobmgebaaGreatDoorG04
import Derived.Test.YtnadilfobmgebaaGreatDoorG05
import Derived.Laws.CopyRow
import Derived.Shelf.Bits.Mul64
import Derived.StillTailTactics
namespace Go.Proofs.YtnadilfobmgebaaGreatDoor
open Go Go.RowKit
structure Tur (w : World) : Prop where
  c0 : w.cell? ⟨1, 0, none⟩ = some (.int .i64 2)
  c1 : w.cell? ⟨1, 1, none⟩ = some (.int .i64 28)
  c2 : w.cell? ⟨1, 2, none⟩ = some (.int .i64 24)
  c3 : w.cell? ⟨1, 3, none⟩ = some (.int .i64 17)
  c4 : w.cell? ⟨1, 4, none⟩ = some (.int .i64 0)
theorem Tur.lt {w : World} (h : Tur w) : 1 < w.heap.size := (addr_of_cell h.c0).2
theorem Tur.keep {w w' : World} (h : Tur w) {S : Nat → Prop} (hu : Upd S w w') (hs : ¬ S 1) : Tur w' :=
  ⟨(hu.cellAt h.lt hs).trans h.c0, (hu.cellAt h.lt hs).trans h.c1, (hu.cellAt h.lt hs).trans h.c2, (hu.cellAt h.lt hs).trans h.c3, (hu.cellAt h.lt hs).trans h.c4⟩
theorem Tur.below {w w' : World} (h : Tur w) (hb : Below w.heap.size w w') : Tur w' := h.keep (Upd.of_below (S := fun _ => False) hb) (fun h => h)
def mayB (a b : Int) : Bool :=
  if a = 0 then b == 1 else if a = 1 then b == 2 || b == 3 || b == 4 else if a = 2 then b == 3 || b == 4 else if a = 3 then b == 0 || b == 4 else false
def stateB (a : Int) : Bool := decide (0 ≤ a) && decide (a ≤ 4)
theorem isState_any (a : Int) (w : World) : Calls Tryz.prog 217 #[.int .i64 a] w fun e w' => e = .returned (.bool (stateB a)) ∧ w' = w := by
  by_cases h1 : 0 ≤ a
  · by_cases h2 : a ≤ 4
    · go_enter Tryz.func217, Tryz.ntmps217
      go_wp2
      go_ret
      exact ⟨by simp [stateB, h1, h2], rfl⟩
    · go_enter Tryz.func217, Tryz.ntmps217
      go_wp2
      go_ret
      exact ⟨by simp [stateB, h1, h2], rfl⟩
  · go_enter Tryz.func217, Tryz.ntmps217
    go_wp2
    go_ret
    exact ⟨by simp [stateB]; omega, rfl⟩
theorem may_out (a b : Int) (h : ¬ (0 ≤ a ∧ a ≤ 4) ∨ ¬ (0 ≤ b ∧ b ≤ 4)) : mayB a b = false := by
  unfold mayB
  repeat' split
  all_goals first | rfl | (simp; omega)
theorem may_any (a b : Int) (w : World) (ht : Tur w) : Calls Tryz.prog 218 #[.int .i64 a, .int .i64 b] w fun e w' => e = .returned (.bool (mayB a b)) ∧ w' = w := by
  by_cases ha : 0 ≤ a ∧ a ≤ 4
  · by_cases hb : 0 ≤ b ∧ b ≤ 4
    · obtain ⟨c0, c1, c2, c3, c4⟩ := ht
      have ha' : a = 0 ∨ a = 1 ∨ a = 2 ∨ a = 3 ∨ a = 4 := by omega
      have hb' : b = 0 ∨ b = 1 ∨ b = 2 ∨ b = 3 ∨ b = 4 := by omega
      clear ha hb
      rcases ha' with rfl | rfl | rfl | rfl | rfl <;> rcases hb' with rfl | rfl | rfl | rfl | rfl
      all_goals
        go_enter Tryz.func218, Tryz.ntmps218
        go_wp2
        go_ret
        exact ⟨rfl, rfl⟩
    · rw [may_out a b (.inr hb)]
      have hs : stateB a = true := by simp [stateB, ha]
      have hs2 : stateB b = false := by simp [stateB]; omega
      clear ht ha hb
      go_enter Tryz.func218, Tryz.ntmps218
      go_wp2_with fail
      refine (isState_any a _).mono ?_
      rintro e w' ⟨rfl, rfl⟩
      rw [hs]
      go_wp2_with fail
      refine (isState_any b _).mono ?_
      rintro e w' ⟨rfl, rfl⟩
      rw [hs2]
      go_wp2
      go_ret
      exact ⟨rfl, rfl⟩
  · rw [may_out a b (.inl ha)]
    have hs : stateB a = false := by simp [stateB]; omega
    clear ht ha
    go_enter Tryz.func218, Tryz.ntmps218
    go_wp2_with fail
    refine (isState_any a _).mono ?_
    rintro e w' ⟨rfl, rfl⟩
    rw [hs]
    go_wp2
    go_ret
    exact ⟨rfl, rfl⟩
structure SlotsAt (T : TypeId) (w : World) (b : Nat) (v : Value) (l : List Int) : Prop where
  str : w.heap[b]? = some (.cells #[v] T (0, 0))
  sl : Sl w 3 1 v l.length (ints l)
  ne : v.ownBlock ≠ some b
  le : l.length ≤ 1024
abbrev ptrAt (b : Nat) : Value := .pointer (some ⟨b, 0, none⟩)
section
variable {T : TypeId} {w w' : World} {b : Nat} {v : Value} {l : List Int}
theorem SlotsAt.keep (h : SlotsAt T w b v l) {S : Nat → Prop} (hu : Upd S w w') (hb : ¬ S b) (hv : ∀ g, v.ownBlock = some g → ¬ S g) : SlotsAt T w' b v l :=
  ⟨(hu.block b (lt_of_block h.str) hb).trans h.str, h.sl.keep hu hv, h.ne, h.le⟩
theorem SlotsAt.new (h : SlotsAt T w b v l) (hu : Upd (fun _ => False) w w') : SlotsAt T w' b v l := h.keep hu (fun h => h) (fun _ _ h => h)
theorem Sl.set {e : TypeId} {g off n cap : Nat} {l : List Int} (h : Sl w e 1 (.slice (some ⟨g, off, none⟩) n cap) n (ints l)) (i : Nat) (hi : i < n) (x : Int) :
    Sl (w.setCell ⟨g, off + i, none⟩ (.int .i64 x)) e 1 (.slice (some ⟨g, off, none⟩) n cap) n (ints (l.set i x)) := by
  obtain ⟨hl, ⟨h1, _⟩ | ⟨g', off', cap', cur, h1, hg, hn, hm, hs, hc⟩⟩ := h
  · cases h1
  · cases h1
    refine ⟨by simpa using hl, .inr ⟨g, off, cap, _, rfl, heap_setCell_same hg _ _, hn, hm, by simpa using hs, fun j u hj => ?_⟩⟩
    have hjl : j < l.length := by have := (List.getElem?_eq_some_iff.1 hj).1; simpa using this
    rw [get_ints (by simpa using hjl)] at hj
    cases hj
    by_cases hji : i = j
    · subst hji
      rw [Array.getElem?_setIfInBounds_self, if_pos (by omega)]
      simp
    · rw [Array.getElem?_setIfInBounds_ne (by omega), List.getElem_set_ne hji]
      exact hc j _ (get_ints hjl)
theorem SlotsAt.set {g off cap : Nat} (h : SlotsAt T w b (.slice (some ⟨g, off, none⟩) l.length cap) l) (i : Nat) (hi : i < l.length) (x : Int) :
    SlotsAt T (w.setCell ⟨g, off + i, none⟩ (.int .i64 x)) b (.slice (some ⟨g, off, none⟩) l.length cap) (l.set i x) ∧ Upd (ownS (.slice (some ⟨g, off, none⟩) l.length cap)) w (w.setCell ⟨g, off + i, none⟩ (.int .i64 x)) := by
  have hu : Upd (ownS (.slice (some ⟨g, off, none⟩) l.length cap)) w (w.setCell ⟨g, off + i, none⟩ (.int .i64 x)) := (upd_setCell w g (off + i) _).mono (fun k _ hk => by subst hk; rfl)
  refine ⟨⟨(hu.block b (lt_of_block h.str) (fun e => h.ne e)).trans h.str, ?_, h.ne, by simpa using h.le⟩, hu⟩
  have := h.sl.set i hi x
  rw [List.length_set]; exact this
theorem SlotsAt.at (h : SlotsAt T w b v l) {i : Nat} (hi : i < l.length) : ∃ g off cap, v = .slice (some ⟨g, off, none⟩) l.length cap ∧ w.cell? ⟨g, off + i, none⟩ = some (.int .i64 l[i]) ∧ w.frozen? ⟨g, off + i, none⟩ = false := by
  obtain ⟨g, off, cap, cur, rfl, hg, _, hc⟩ := h.sl.at (by omega)
  exact ⟨g, off, cap, rfl, by rw [cell_of_block hg]; exact hc i _ (get_ints hi), frozen_of_block hg _⟩
end
section
variable {w : World} {b : Nat} {v : Value} {l : List Int}
theorem state_out (h : SlotsAt 285 w b v l) (slot : Int) (ho : slot < 0 ∨ (l.length : Int) ≤ slot) :
    Calls Tryz.prog 216 #[ptrAt b, .int .i64 slot] w fun e w' => e = .returned (.tuple #[.int .i64 0, .int .i64 10]) ∧ w' = w := by
  have hc0 := cell_of_block h.str 0
  simp at hc0
  have hle := h.le
  obtain ⟨ao, c, rfl⟩ := h.sl.rd.nil_iff
  clear h
  by_cases h0 : slot < 0
  · clear ho
    go_enter Tryz.func216, Tryz.ntmps216
    go_wp2
    go_ret2
    exact ⟨rfl, rfl⟩
  · have h1 : (l.length : Int) ≤ slot := by omega
    clear ho
    go_enter Tryz.func216, Tryz.ntmps216
    go_wp2
    go_ret2
    exact ⟨rfl, rfl⟩
theorem state_in (h : SlotsAt 285 w b v l) (i : Nat) (hi : i < l.length) :
    Calls Tryz.prog 216 #[ptrAt b, .int .i64 i] w fun e w' => e = .returned (.tuple #[.int .i64 l[i], .int .i64 0]) ∧ w' = w := by
  have hc0 := cell_of_block h.str 0
  simp at hc0
  have hle := h.le
  obtain ⟨g, off, cap, rfl, hc, hf⟩ := h.at hi
  clear h
  go_enter Tryz.func216, Tryz.ntmps216
  go_wp2
  go_ret2
  exact ⟨rfl, rfl⟩
def turnCode (l : List Int) (slot state : Int) : Int :=
  if slot < 0 ∨ (l.length : Int) ≤ slot then 10 else if stateB state = false then 1 else if mayB (l.getD slot.toNat 0) state = false then 16 else 0
def turnList (l : List Int) (slot state : Int) : List Int := if turnCode l slot state = 0 then l.set slot.toNat state else l
theorem turn_any (h : SlotsAt 285 w b v l) (ht : Tur w) (slot state : Int) :
    Calls Tryz.prog 182 #[ptrAt b, .int .i64 slot, .int .i64 state] w fun e w' => e = .returned (.int .i64 (turnCode l slot state)) ∧
      SlotsAt 285 w' b v (turnList l slot state) ∧ Upd (ownS v) w w' := by
  have H := Lib.hid h
  have HT := Lib.hid ht
  clear ht
  by_cases h0 : slot < 0 ∨ (l.length : Int) ≤ slot
  · have hcode : turnCode l slot state = 10 := by simp [turnCode, h0]
    have hlist : turnList l slot state = l := by simp [turnList, hcode]
    rw [hcode, hlist]
    have H0 := Lib.hid h0
    clear h hcode hlist h0
    go_enter Tryz.func182, Tryz.ntmps182
    go_wp2_with fail
    refine (state_out H.out _ H0.out).mono ?_
    rintro e w' ⟨rfl, rfl⟩
    go_wp2
    go_ret
    exact ⟨rfl, H.out, Upd.refl _ _⟩
  · obtain ⟨i, rfl⟩ := Int.eq_ofNat_of_zero_le (show 0 ≤ slot by omega)
    have hi : i < l.length := by omega
    have hgd : l.getD i 0 = l[i] := by simp [hi]
    by_cases h1 : stateB state = false
    · have hcode : turnCode l i state = 1 := by simp only [turnCode, if_neg h0, if_pos h1]
      have hlist : turnList l i state = l := by simp [turnList, hcode]
      rw [hcode, hlist]
      have H1 := Lib.hid h1
      clear h hcode hlist h0 hgd h1
      go_enter Tryz.func182, Tryz.ntmps182
      go_wp2_with fail
      refine (state_in H.out i hi).mono ?_
      rintro e w' ⟨rfl, rfl⟩
      go_wp2_with fail
      refine (isState_any state _).mono ?_
      rintro e w' ⟨rfl, rfl⟩
      rw [H1.out]
      go_wp2
      go_ret
      exact ⟨rfl, H.out, Upd.refl _ _⟩
    · have h1' : stateB state = true := by simpa using h1
      by_cases h2 : mayB l[i] state = false
      · have hcode : turnCode l i state = 16 := by simp only [turnCode, if_neg h0, if_neg h1, Int.toNat_natCast, hgd, if_pos h2]
        have hlist : turnList l i state = l := by simp [turnList, hcode]
        rw [hcode, hlist]
        have H1 := Lib.hid h1'
        have H2 := Lib.hid h2
        clear h hcode hlist h0 hgd h1 h1' h2
        go_enter Tryz.func182, Tryz.ntmps182
        go_wp2_with fail
        refine (state_in H.out i hi).mono ?_
        rintro e w' ⟨rfl, rfl⟩
        go_wp2_with fail
        refine (isState_any state _).mono ?_
        rintro e w' ⟨rfl, rfl⟩
        rw [H1.out]
        go_wp2_with fail
        refine (may_any _ _ _ HT.out).mono ?_
        rintro e w' ⟨rfl, rfl⟩
        rw [H2.out]
        go_wp2
        go_ret
        exact ⟨rfl, H.out, Upd.refl _ _⟩
      · have h2' : mayB l[i] state = true := by simpa using h2
        have hcode : turnCode l i state = 0 := by simp only [turnCode, if_neg h0, if_neg h1, Int.toNat_natCast, hgd, if_neg h2]
        have hlist : turnList l i state = l.set i state := by simp only [turnList, hcode, if_true, Int.toNat_natCast]
        rw [hcode, hlist]
        have H1 := Lib.hid h1'
        have H2 := Lib.hid h2'
        have hc0 := cell_of_block h.str 0
        simp at hc0
        have hle := h.le
        obtain ⟨g, off, cap, rfl, hc, hf⟩ := h.at hi
        have HF := Lib.hid (H.out.set i hi state)
        clear h hcode hlist h0 hgd h1 h1' h2 h2'
        go_enter Tryz.func182, Tryz.ntmps182
        go_wp2_with fail
        refine (state_in H.out i hi).mono ?_
        rintro e w' ⟨rfl, rfl⟩
        go_wp2_with fail
        refine (isState_any state _).mono ?_
        rintro e w' ⟨rfl, rfl⟩
        rw [H1.out]
        go_wp2_with fail
        refine (may_any _ _ _ HT.out).mono ?_
        rintro e w' ⟨rfl, rfl⟩
        rw [H2.out]
        go_wp2
        go_ret
        exact ⟨rfl, HF.out.1, HF.out.2⟩
end
theorem mul64 (x y : Nat) (hx : x < 18446744073709551616) (hy : y < 18446744073709551616) (w : World) :
    Calls Tryz.prog 239 #[.int .u64 x, .int .u64 y] w fun e w' => e = .returned (.tuple #[.int .u64 ((x * y / 18446744073709551616 : Nat) : Int), .int .u64 ((x * y % 18446744073709551616 : Nat) : Int)]) ∧ w' = w := by
  obtain ⟨bd, bt, bw, hhi⟩ := Lib.mul64_hi x y hx hy
  have ba := Lib.half_mul_le (a := x / 4294967296) (b := y / 4294967296) (by omega) (by omega)
  have bb := Lib.half_mul_le (a := x / 4294967296) (b := y % 4294967296) (by omega) (by omega)
  have bc := Lib.half_mul_le (a := x % 4294967296) (b := y / 4294967296) (by omega) (by omega)
  have ba' : x / 4294967296 * (y / 4294967296) < 18446744073709551616 := by omega
  have bb' : x / 4294967296 * (y % 4294967296) < 18446744073709551616 := by omega
  have bc' : x % 4294967296 * (y / 4294967296) < 18446744073709551616 := by omega
  have bh1 : x / 4294967296 * (y / 4294967296) + (x / 4294967296 * (y % 4294967296) + x % 4294967296 * (y % 4294967296) / 4294967296) / 4294967296 < 18446744073709551616 := by omega
  have bh : x / 4294967296 * (y / 4294967296) + (x / 4294967296 * (y % 4294967296) + x % 4294967296 * (y % 4294967296) / 4294967296) / 4294967296 + ((x / 4294967296 * (y % 4294967296) + x % 4294967296 * (y % 4294967296) / 4294967296) % 4294967296 + x % 4294967296 * (y / 4294967296)) / 4294967296 < 18446744073709551616 := by omega
  go_enter Tryz.func239, Tryz.ntmps239
  go_wp2
  simp only [Mul64.maskN x hx, Mul64.maskN y hy, Mul64.divN, Mul64.mulN, Mul64.addN, Mul64.wrapN _ bd, Mul64.wrapN _ bb', Mul64.wrapN _ bt, Mul64.maskN _ bt, Mul64.wrapN _ bc', Mul64.wrapN _ bw, Mul64.wrapN _ ba', Mul64.wrapN _ bh1, Mul64.wrapN _ bh, Mul64.wrapM (x * y)]
  rw [hhi]
  go_ret2
  exact ⟨rfl, rfl⟩
theorem mul (x y : Nat) (hx : x < 18446744073709551616) (hy : y < 18446744073709551616) (w : World) :
    Calls Tryz.prog 221 #[.int .u64 x, .int .u64 y] w fun e w' => e = .returned (.tuple #[.int .u64 ((x * y / 18446744073709551616 : Nat) : Int), .int .u64 ((x * y % 18446744073709551616 : Nat) : Int)]) ∧ w' = w := by
  go_enter Tryz.func221, Tryz.ntmps221
  go_wp2_with fail
  refine (mul64 x y hx hy w).mono ?_
  rintro e w' ⟨rfl, rfl⟩
  go_wp2
  go_ret2
  exact ⟨rfl, rfl⟩
section
variable {P : Program}
theorem run_copy_rowk (w : World) (dT sT ty elem : TypeId) (k g o dLen dCap : Nat) (a : Addr) (sLen sCap : Nat) (cur : Array Value) (t : TypeId) (cs : List Value)
    (hu : P.underlying dT = some (.slice elem)) (hs : (P.info? elem).map (·.size) = some k)
    (hg : w.heap[g]? = some (.cells cur t (0, 0))) (hn : cs.length = Nat.min sLen dLen * k)
    (hsrc : ∀ j v, cs[j]? = some v → w.cell? (a.add j) = some v) (hfit : o + cs.length ≤ cur.size) (h1 : ∀ v ∈ cs, v.oneCell' = true) :
    (Builtin.copy_ #[dT, sT] ty #[.slice (some ⟨g, o, none⟩) dLen dCap, .slice (some a) sLen sCap]).run P w =
      .ok (goInt (Nat.min sLen dLen : Nat)) (w.setRow g (cur.toList.take o ++ cs ++ cur.toList.drop (o + cs.length)).toArray) := by
  have hl := run_loadCells_list (P := P) w a cs hsrc
  have hst := run_storeCells_at P g o t cs 0 cur w hg (by simpa using hfit) h1
  cases hq : P.info? elem with
  | none => simp [hq] at hs
  | some i =>
    have hi : i.size = k := by simpa [hq] using hs
    rw [hn] at hl
    simp [Builtin.copy_, run_underlying hu, Builtin.lenOf, Builtin.firstCells, sizeOf, typeInfo, hq, hi, hl, hst]
theorem copy_rowk (w : World) (dT sT elem : TypeId) (k g o dLen dCap : Nat) (a : Addr) (sLen sCap : Nat) (cur : Array Value) (t : TypeId) (cs : List Value)
    (hu : P.underlying dT = some (.slice elem)) (hs : (P.info? elem).map (·.size) = some k)
    (hg : w.heap[g]? = some (.cells cur t (0, 0))) (hn : cs.length = Nat.min sLen dLen * k)
    (hsrc : ∀ j v, cs[j]? = some v → w.cell? (a.add j) = some v) (hfit : o + cs.length ≤ cur.size) (h1 : ∀ v ∈ cs, v.oneCell' = true) :
    ∃ w', (∀ ty, (Builtin.copy_ #[dT, sT] ty #[.slice (some ⟨g, o, none⟩) dLen dCap, .slice (some a) sLen sCap]).run P w = .ok (goInt (Nat.min sLen dLen : Nat)) w') ∧
      w'.heap[g]? = some (.cells (cur.toList.take o ++ (cs ++ cur.toList.drop (o + cs.length))).toArray t (0, 0)) ∧ Upd (fun j => j = g) w w' ∧ w'.heap.size = w.heap.size :=
  ⟨_, fun ty => run_copy_rowk w dT sT ty elem k g o dLen dCap a sLen sCap cur t cs hu hs hg hn hsrc hfit h1, by rw [← List.append_assoc]; exact setRow_heap w g cur _ t _ hg, ⟨rfl, rfl, rfl, by simp [World.setRow], fun k _ hk => setRow_other w g k _ (fun e => hk e)⟩, by simp [World.setRow]⟩
end
def noPl (n : Nat) : List Value := (List.replicate n ()).flatMap fun _ => [.int .i64 (-1), .bool false]
theorem noPl_len (n : Nat) : (noPl n).length = n * 2 := by
  have := length_flat (f := fun _ : Unit => [Value.int .i64 (-1), Value.bool false]) (k := 2) (fun _ => rfl) (List.replicate n ())
  rw [List.length_replicate] at this; exact this
theorem noPl_add (a b : Nat) : noPl (a + b) = noPl a ++ noPl b := by
  simp only [noPl]
  rw [← List.replicate_append_replicate, List.flatMap_append]
theorem infoPlace : (Tryz.prog.info? 108).map (fun i => (i.zero, i.size, i.bytes)) = some (some (.agg #[.int .i64 0, .bool false]), 2, 16) := by kernel_rfl
set_option maxRecDepth 100000 in
theorem repeat_ok (n : Nat) (gx : Nat) (w : World) (h1 : 1 ≤ n) (h2 : n ≤ 4096) (hx : w.heap[gx]? = some (.cells #[.int .i64 (-1), .bool false] 108)) :
    Calls Tryz.prog 189 #[.slice (some ⟨gx, 0, none⟩) 1 1, .int .i64 n] w fun e w' => e = .returned (.slice (some ⟨w.heap.size, 0, none⟩) n n) ∧
      w'.heap[w.heap.size]? = some (.cells (noPl n).toArray 108) ∧ Below w.heap.size w w' ∧ w'.heap.size = w.heap.size + 1 := by
  obtain ⟨i0, hi, hz0, hz1, hz2⟩ := info_parts infoPlace
  have hmk : ∀ w : World, ∃ zs : List Value, zs.length = n * 2 ∧ (Instr.makeSlice 227 (.int .i64 n) (.int .i64 n)).run Tryz.prog w = .ok (.slice (some ⟨w.heap.size, 0, none⟩) n n) (w.alloc (.cells zs.toArray 108)) := by
    intro w
    have := run_make (P := Tryz.prog) w 227 108 i0 (.agg #[.int .i64 0, .bool false]) Tryz.underlying227 hi hz0 .i64 .i64 n n (by omega) (by omega) (by rw [hz2]; omega) (by omega)
    refine ⟨(madeCells #[.int .i64 0, .bool false] (n * 2)).toList, by simp [size_madeCells], ?_⟩
    rw [this]
    simp [hz1, Value.cells]
  obtain ⟨zs, hzl, hrun⟩ := hmk w
  have hn0 : ¬ (n : Int) < 0 := by omega
  clear hi hz0 hz1 hz2 hmk
  go_enter Tryz.func189, Tryz.ntmps189
  go_wp2_with fail
  refine (mul 1 n (by decide) (by omega) _).mono ?_
  rintro e w' ⟨rfl, rfl⟩
  rw [show 1 * n / 18446744073709551616 = 0 by omega, show 1 * n % 18446744073709551616 = n by omega]
  have hgx := lt_of_block hx
  have hA : (w'.alloc (.cells zs.toArray 108)).heap[w'.heap.size]? = some (.cells zs.toArray 108) := heap_alloc_last _ _ rfl
  have hxA : (w'.alloc (.cells zs.toArray 108)).heap[gx]? = some (.cells #[.int .i64 (-1), .bool false] 108) := (Below.heap_alloc _ _ _ hgx).trans hx
  have hS : (Tryz.prog.info? 108).map (·.size) = some 2 := by kernel_rfl
  have HA := Lib.hid hA; have HX := Lib.hid hxA; have HRUN := Lib.hid hrun
  clear hA hxA hx
  have hmn : Nat.min 1 n = 1 := Nat.min_eq_left h1
  have e1 : ([.int .i64 (-1), .bool false] : List Value).length = Nat.min 1 n * 2 := by rw [hmn]; rfl
  have e2 : ∀ (j : Nat) (v : Value), ([.int .i64 (-1), .bool false] : List Value)[j]? = some v → (w'.alloc (.cells zs.toArray 108)).cell? ((⟨gx, 0, none⟩ : Addr).add j) = some v := fun j v hj => by rw [Addr.add_lit, cell_of_block HX.out]; simpa using hj
  have e3 : 0 + ([.int .i64 (-1), .bool false] : List Value).length ≤ zs.toArray.size := by simp; omega
  obtain ⟨w2, hcp, hg2, hu2, hz2⟩ := copy_rowk (P := Tryz.prog) (w'.alloc (.cells zs.toArray 108)) 227 227 108 2 w'.heap.size 0 n n ⟨gx, 0, none⟩ 1 1 zs.toArray 108 [.int .i64 (-1), .bool false] Tryz.underlying227 hS HA.out e1 e2 e3 (by simp [Value.oneCell'])
  rw [hmn] at hcp
  clear e1 e2 e3
  have hg3 : w2.heap[w'.heap.size]? = some (.cells (noPl 1 ++ zs.drop 2).toArray 108) := by rw [hg2]; rfl
  have hB2 : Below w'.heap.size w' w2 := below_upd ((Below.refl _ _).alloc (Nat.le_refl _) _) hu2 (Nat.le_refl _) (fun j e => by omega)
  have hz3 : w2.heap.size = w'.heap.size + 1 := by rw [hz2]; simp
  clear hg2 hu2 hz2
  go_wp2
  clear hcp HX HRUN hrun
  go_loopg [8] (n - 1) (fun q i wr => ∃ (k : Nat) (rest : List Value), 1 ≤ k ∧ k ≤ n ∧ q = n - k ∧ i = .int .i64 k ∧ rest.length = (n - k) * 2 ∧ wr.heap[w'.heap.size]? = some (.cells (noPl k ++ rest).toArray 108) ∧ Below w'.heap.size w' wr ∧ wr.heap.size = w'.heap.size + 1)
  case atStart => exact ⟨1, zs.drop 2, by omega, h1, rfl, rfl, by simp; omega, hg3, hB2, hz3⟩
  case round =>
    clear hg3 hB2 hz3
    obtain ⟨k, rest, hk1, hkn, rfl, rfl, hrl, hg, hb, hz⟩ := hrel
    by_cases hlt : k < n
    · have hkk : noPl k = noPl (Nat.min k (n - k)) ++ noPl (k - Nat.min k (n - k)) := by rw [← noPl_add]; congr 1; have := Nat.min_le_left k (n - k); show k = min k (n - k) + _; have : min k (n - k) ≤ k := Nat.min_le_left _ _; show k = min k (n-k) + (k - min k (n-k)); omega
      obtain ⟨w3, hcp, hg4, hu4, hz4⟩ := copy_rowk (P := Tryz.prog) wr.drew 227 227 108 2 w'.heap.size (k * 2) (n - k) (n - k) ⟨w'.heap.size, 0, none⟩ k n (noPl k ++ rest).toArray 108 (noPl (Nat.min k (n - k))) Tryz.underlying227 hS hg (by rw [noPl_len])
        (fun j v hj => by
          rw [Addr.add_lit, cell_of_block (w := wr.drew) hg]
          have hjl := (List.getElem?_eq_some_iff.1 hj).1
          rw [hkk]
          simp only [List.getElem?_toArray, Nat.zero_add, List.append_assoc]
          rw [List.getElem?_append_left hjl]; exact hj)
        (by rw [noPl_len]; simp only [List.size_toArray, List.length_append, noPl_len, hrl]; have : Nat.min k (n - k) ≤ n - k := Nat.min_le_right _ _; omega) (by intro v hv; simp only [noPl, List.mem_flatMap] at hv; obtain ⟨_, _, hv⟩ := hv; simp at hv; rcases hv with rfl | rfl <;> simp [Value.oneCell'])
      go_wp2
      go_region
      obtain ⟨c, hce⟩ : ∃ c, c = Nat.min k (n - k) := ⟨_, rfl⟩
      rw [← hce] at hkk hg4
      have hc1 : 1 ≤ c := by rw [hce]; exact Nat.le_min.2 ⟨hk1, by omega⟩
      have hc2 : c ≤ n - k := by rw [hce]; exact Nat.min_le_right _ _
      have hg5 : w3.heap[w'.heap.size]? = some (.cells (noPl (k + c) ++ rest.drop (c * 2)).toArray 108) := by
        rw [hg4, noPl_add]
        have e1 : (noPl k ++ rest).toArray.toList.take (k * 2) = noPl k := by simp [noPl_len]
        have e2 : (noPl k ++ rest).toArray.toList.drop (k * 2 + (noPl c).length) = rest.drop (c * 2) := by
          rw [noPl_len]; show (noPl k ++ rest).drop (k * 2 + c * 2) = _
          rw [List.drop_append, noPl_len, List.drop_eq_nil_of_le (by rw [noPl_len]; omega)]
          simp
        rw [e1, e2, List.append_assoc]
      have hb3 : Below w'.heap.size w' w3 := below_upd hb (((Upd.refl _ wr).drew).trans hu4) (Nat.le_refl _) (fun j e => by omega)
      have hz5 : w3.heap.size = w'.heap.size + 1 := by rw [hz4]; exact hz
      rw [← hce]
      clear hg4 hu4 hz4 hg hb hz hcp hkk hce
      have hkc : k + c ≤ 4096 := by omega
      have hkc' : ∀ x : Int, x = (k : Int) + c → wrap64 x = ((k + c : Nat) : Int) := by intro x hx; subst hx; unfold wrap64; omega
      go_wp2
      go_roundg (n - (k + c))
      case measure => omega
      case rel => exact ⟨k + c, rest.drop (c * 2), by omega, by omega, rfl, by rw [hkc' _ rfl], by simp; omega, hg5, hb3, hz5⟩
    · obtain rfl : k = n := by omega
      obtain rfl : rest = [] := List.eq_nil_of_length_eq_zero (by omega)
      rw [List.append_nil] at hg
      go_wp2
      go_ret
      exact ⟨rfl, hg, hb, hz⟩
end Go.Proofs.YtnadilfobmgebaaGreatDoor
