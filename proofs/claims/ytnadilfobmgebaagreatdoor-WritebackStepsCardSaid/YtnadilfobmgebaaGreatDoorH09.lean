/- Bytes of numbers: may, low, seal, Sealed. The seal of a sector. The seal is asked; a writer's seal; a reader. A reader of a sector. Bounds of numbers; spans. Intents: their numbers, which may be, and the intent of numbers. The form of intents. Numbers, one behind the other, as bytes. An intent, as a sector. An intent as a sector: PutIntent. The intent that a sector is. Numbers with their sizes; what a thing's numbers are, with the row's capacity. -/
import Derived.Test.YtnadilfobmgebaaGreatDoorH07
import Derived.BigQuiet
import Derived.Laws.EntriesVeiled
namespace Go.Proofs.YtnadilfobmgebaaGreatDoor
open Go Go.RowKit
def byV (n i : Nat) : Value := .int .u8 (((UInt8.ofNat (n / 256 ^ i)).toNat : Nat) : Int)
theorem byV_eq (n k : Nat) : Value.int .u8 ((n : Int) / 2 ^ (8 * k) % 256) = byV n k := by
  unfold byV
  have h1 : (UInt8.ofNat (n / 256 ^ k)).toNat = n / 256 ^ k % 256 := by simp
  have h2 : (256 : Nat) ^ k = 2 ^ (8 * k) := by rw [Nat.pow_mul]
  rw [h1, h2, Int.natCast_emod, Int.natCast_ediv, Int.natCast_pow]
  rfl
set_option maxRecDepth 100000 in
set_option maxHeartbeats 1000000 in
theorem low_any {w : World} (n size : Nat) (_hn : n < 72057594037927936) (hs : size ≤ 7) (fd : Nat) (caps : Array Value) (hent : ∀ args w, (callFunc fd args).run Tryz.prog w = .ok (.enter fd args) w)
    (J : Nat → World → Prop) (h0 : J 0 w) (hput : ∀ i, i < size → ∀ w, J i w → Calls Tryz.prog fd (#[byV n i] ++ caps) w fun e w' => e = .returned (.tuple #[]) ∧ J (i + 1) w') :
    Calls Tryz.prog 173 #[.int .i64 (n : Int), .int .i64 (size : Int), .func (.func fd) #[] caps] w fun e w' => e = .returned (.tuple #[]) ∧ J size w' := by
  have H := Lib.hid (And.intro h0 hput)
  clear h0 hput
  go_enter Tryz.func173, Tryz.ntmps173
  go_wp2
  go_step3
  go_wp2
  go_step3
  go_wp2
  go_loopw [6] (fun i wr => ∃ k : Nat, k ≤ size ∧ i = .int .i64 k ∧ J k wr) (fun i _ => size - (intOf i).toNat)
  case atStart => exact ⟨0, Nat.zero_le _, rfl, H.out.1⟩
  case round =>
    obtain ⟨k, hk, rfl, hJ⟩ := hrel
    have HJ := Lib.hid hJ
    clear hJ
    by_cases hlt : k < size
    · have hq : ((k : Int) == (size : Int)) = false := by rw [beq_eq_false_iff_ne]; omega
      go_wp2_with fail
      rw [byV_eq]
      refine (H.out.2 k hlt wr HJ.out).mono ?_
      rintro e w2 ⟨rfl, hJ2⟩
      have HJ2 := Lib.hid hJ2
      clear hJ2
      go_wp2
      go_roundw
      case rel => exact ⟨k + 1, by omega, by go_num, HJ2.out⟩
      case measure => simp [intOf]; omega
    · obtain rfl : k = size := by omega
      go_wp2
      try rw [Exit.noGoto_normal]
      go_end0
      exact ⟨rfl, HJ.out⟩
theorem may_ok (n size left : Nat) (h1 : 1 ≤ size) (h2 : size ≤ 7) (hn : n < 256 ^ size) (hl : size ≤ left) (_hl2 : left ≤ 60) (w : World) :
    Calls Tryz.prog 167 #[.int .i64 (n : Int), .int .i64 (size : Int), .int .i64 (left : Int)] w fun e w' => e = .returned (.int .i64 0) ∧ w' = w := by
  have hsh : Hid ((n : Int) / 2 ^ (8 * size) = 0) := by
    show _ = _
    have e : (256 : Nat) ^ size = 2 ^ (8 * size) := by rw [Nat.pow_mul]
    rw [e] at hn
    have : ((n / 2 ^ (8 * size) : Nat) : Int) = 0 := by rw [Nat.div_eq_of_lt hn]; rfl
    rw [Int.natCast_ediv, Int.natCast_pow] at this
    exact this
  have hn2 : n < 72057594037927936 := Nat.lt_of_lt_of_le hn (Nat.pow_le_pow_right (n := 256) (by omega) h2)
  clear hn
  have q1 : decide ((size : Int) < 1) = false := by simp; omega
  have q2 : decide ((7 : Int) < (size : Int)) = false := by simp; omega
  have q3 : decide ((n : Int) < 0) = false := by simp
  have q4 := hsh.out
  go_enter Tryz.func167, Tryz.ntmps167
  go_wp2
  go_ret
  exact ⟨rfl, rfl⟩
def padB (bs : List UInt8) : Bk := bs ++ List.replicate (64 - bs.length) 0
theorem padB_len {bs : List UInt8} (h : bs.length ≤ 64) : (padB bs).length = 64 := by simp [padB]; omega
theorem padB_snoc {bs : List UInt8} (h : bs.length < 64) (b : UInt8) : padB (bs ++ [b]) = (padB bs).set bs.length b := by
  unfold padB
  have e : 64 - bs.length = (64 - (bs ++ [b]).length) + 1 := by simp; omega
  rw [e, List.replicate_succ, List.set_append_right _ _ (Nat.le_refl _)]
  simp
theorem lowB_snoc (n i : Nat) : lowB n (i + 1) = lowB n i ++ [UInt8.ofNat (n / 256 ^ i)] := by
  induction i generalizing n with
  | zero => simp [lowB]
  | succ i ih =>
    have h1 := ih (n / 256)
    show UInt8.ofNat n :: lowB (n / 256) (i + 1) = (UInt8.ofNat n :: lowB (n / 256) i) ++ _
    rw [h1, List.cons_append, Nat.div_div_eq_div_mul, Nat.pow_succ, Nat.mul_comm]
theorem bkC_set (x : Bk) (i : Nat) (b : UInt8) : bkC (x.set i b) = (bkC x).set i (Go.Extern.Stop.cell b) := by simp [bkC, List.map_set]
def WrAt (w : World) (g : Nat) (bs : List UInt8) : Prop :=
  bs.length ≤ 60 ∧ w.heap[g]? = some (.cells (bkC (padB bs) ++ [Value.int .i64 (bs.length : Int), Value.int .i64 0]).toArray 268 (0, 0))
section
variable {w w' : World} {g : Nat} {bs : List UInt8}
theorem WrAt.lt (h : WrAt w g bs) : g < w.heap.size := lt_of_block h.2
theorem WrAt.keep (h : WrAt w g bs) {S : Nat → Prop} (hu : Upd S w w') (hs : ¬ S g) : WrAt w' g bs := ⟨h.1, (hu.block g h.lt hs).trans h.2⟩
theorem WrAt.len (h : WrAt w g bs) : (bkC (padB bs)).length = 64 := by rw [bkC_len, padB_len (by have := h.1; omega)]
theorem WrAt.c64 (h : WrAt w g bs) : w.cell? ⟨g, 64, none⟩ = some (.int .i64 (bs.length : Int)) := by
  rw [cell_of_block h.2, List.getElem?_toArray, List.getElem?_append_right (by rw [h.len]; omega), h.len]; rfl
theorem WrAt.c65 (h : WrAt w g bs) : w.cell? ⟨g, 65, none⟩ = some (.int .i64 0) := by
  rw [cell_of_block h.2, List.getElem?_toArray, List.getElem?_append_right (by rw [h.len]; omega), h.len]; rfl
theorem WrAt.fz (h : WrAt w g bs) (i : Nat) : w.frozen? ⟨g, i, none⟩ = false := frozen_of_block h.2 i
theorem WrAt.range (h : WrAt w g bs) : w.rangeAt g 0 (bkC (padB bs)) := fun j v hv => by
  have hj := (List.getElem?_eq_some_iff.1 hv).1
  rw [cell_of_block h.2, Nat.zero_add, List.getElem?_toArray, List.getElem?_append_left hj]; exact hv
theorem WrAt.some (h : WrAt w g bs) {i : Nat} (hi : i < 66) : ∃ v, w.cell? ⟨g, i, none⟩ = some v := by
  rw [cell_of_block h.2, List.getElem?_toArray]
  exact ⟨_, List.getElem?_eq_getElem (by rw [List.length_append, h.len]; exact hi)⟩
theorem WrAt.push (h : WrAt w g bs) (hl : bs.length < 60) (b : UInt8) (hw : Upd (fun _ => False) (w.setCell ⟨g, bs.length, none⟩ (Go.Extern.Stop.cell b)) w') :
    WrAt (w'.setCell ⟨g, 64, none⟩ (.int .i64 ((bs ++ [b]).length : Int))) g (bs ++ [b]) := by
  refine ⟨by simp; omega, ?_⟩
  have h1 := heap_setCell_same h.2 bs.length (Go.Extern.Stop.cell b)
  have h2 := (hw.block g (lt_of_block h1) (fun h => h)).trans h1
  have h3 := heap_setCell_same h2 64 (.int .i64 ((bs ++ [b]).length : Int))
  rw [h3]
  congr 2
  rw [List.setIfInBounds_toArray, List.setIfInBounds_toArray, List.set_append_left _ _ (by rw [h.len]; omega), ← bkC_set, ← padB_snoc (by omega)]
  have hl2 : (bkC (padB (bs ++ [b]))).length = 64 := by rw [bkC_len, padB_len (by simp; omega)]
  rw [List.set_append_right _ _ (by omega), hl2]
  rfl
end
set_option maxRecDepth 100000 in
set_option maxHeartbeats 1000000 in
theorem wput1 {w : World} {g g0 : Nat} {bs : List UInt8} (h : WrAt w g bs) (hl : bs.length < 60) (b : UInt8) (hc : w.cell? ⟨g0, 0, none⟩ = some (.pointer (some ⟨g, 0, none⟩))) (hne : ¬ g = g0) :
    Calls Tryz.prog 172 #[.int .u8 ((b.toNat : Nat) : Int), .pointer (some ⟨g0, 0, none⟩)] w fun e w' => e = .returned (.tuple #[]) ∧ WrAt w' g (bs ++ [b]) ∧ Upd (fun j => j = g) w w' := by
  have c64 := h.c64
  obtain ⟨v0, cb⟩ := h.some (i := bs.length) (by omega)
  have hfz := h.fz bs.length
  have hfz2 := h.fz 64
  have hU : Upd (fun j => j = g) w ((w.setCell ⟨g, bs.length, none⟩ (.int .u8 ((b.toNat : Nat) : Int))).drew.setCell ⟨g, 64, none⟩ (.int .i64 ((bs.length : Int) + 1))) := ((upd_setCell _ _ _ _).drew).trans (upd_setCell _ _ _ _)
  have hP : WrAt ((w.setCell ⟨g, bs.length, none⟩ (.int .u8 ((b.toNat : Nat) : Int))).drew.setCell ⟨g, 64, none⟩ (.int .i64 ((bs.length : Int) + 1))) g (bs ++ [b]) := by
    have := h.push hl b ((Upd.refl (fun _ => False) _).drew)
    rw [List.length_append] at this
    exact this
  have HP := Lib.hid (And.intro hP hU)
  have hb1 : 0 ≤ (bs.length : Int) ∧ (bs.length : Int) < 60 := ⟨by omega, by omega⟩
  obtain ⟨hb1, hb2⟩ := hb1
  clear h hP hU
  go_enter Tryz.func172, Tryz.ntmps172
  go_wp2
  go_region
  go_wp2
  go_end0
  exact ⟨rfl, HP.out.1, HP.out.2⟩
theorem WrAt.set65 {w : World} {g : Nat} {bs : List UInt8} (h : WrAt w g bs) : WrAt (w.setCell ⟨g, 65, none⟩ (.int .i64 0)) g bs := by
  refine ⟨h.1, ?_⟩
  rw [heap_setCell_same h.2 65 (.int .i64 0)]
  congr 2
  rw [List.setIfInBounds_toArray, List.set_append_right _ _ (by rw [h.len]; omega), h.len]
  rfl
theorem cell_keep_off {w : World} {g o b o' : Nat} {v u : Value} (h : w.cell? ⟨g, o, none⟩ = some v) (hne : o' ≠ o) : (w.setCell ⟨b, o', none⟩ u).cell? ⟨g, o, none⟩ = some v := by
  rw [World.cell?_setCell_other _ _ _ _ (fun e => hne (congrArg Addr.off e)), h]
theorem wwrite (w : World) : Calls Tryz.prog 126 #[] w fun e w' => ∃ g, e = .returned (.pointer (some ⟨g, 0, none⟩)) ∧ WrAt w' g [] ∧ w.heap.size ≤ g ∧ Below w.heap.size w w' := by
  go_enter Tryz.func126, Tryz.ntmps126
  go_wp2
  go_ret
  refine ⟨w.heap.size, rfl, ⟨by simp, heap_alloc_last w _ rfl⟩, Nat.le_refl _, (Below.refl _ w).alloc (Nat.le_refl _) _⟩
set_option maxRecDepth 100000 in
set_option maxHeartbeats 1000000 in
theorem wput {w : World} {g : Nat} {bs : List UInt8} (h : WrAt w g bs) (n size : Nat) (h1 : 1 ≤ size) (h2 : size ≤ 7) (hn : n < 256 ^ size) (hl : bs.length + size ≤ 60) :
    Calls Tryz.prog 127 #[.pointer (some ⟨g, 0, none⟩), .int .i64 (n : Int), .int .i64 (size : Int)] w fun e w' => e = .returned (.pointer (some ⟨g, 0, none⟩)) ∧ WrAt w' g (bs ++ lowB n size) ∧ Upd (fun j => j = g) w w' := by
  have hmf : ∀ (fn : Fn) (first cap : Array Value) (w : World), (Instr.makeFunc fn first cap).run Tryz.prog w = .ok (.func fn first cap) w := fun _ _ _ _ => rfl
  have hua : Upd (fun _ => False) w (w.alloc (.cells #[.pointer (some ⟨g, 0, none⟩)] 209)) := (Upd.refl _ _).alloc _
  have h' := h.keep hua (fun h => h)
  have c0 : (w.alloc (.cells #[.pointer (some ⟨g, 0, none⟩)] 209)).cell? ⟨w.heap.size, 0, none⟩ = some (.pointer (some ⟨g, 0, none⟩)) := cell_of_block (heap_alloc_last w _ rfl) 0
  have c64 := h'.c64
  have c65 := h'.c65
  have z65 := h'.fz 65
  have hgl := h.lt
  have hne : ¬ g = w.heap.size := by omega
  have hne2 : w.heap.size ≠ g := by omega
  have H := Lib.hid (And.intro h' (And.intro hua (And.intro hn (And.intro h2 (And.intro hl h1)))))
  have hs1 : (60 : Int) - bs.length = ((60 - bs.length : Nat) : Int) := by omega
  have hsw : IntKind.i64.wrap (60 - (bs.length : Int)) = ((60 - bs.length : Nat) : Int) := by rw [hs1, IntWalk.i64_in _ (by omega)]
  clear h' hua hn h h1 hs1
  go_enter Tryz.func127, Tryz.ntmps127
  go_wp2
  generalize (w.alloc (.cells #[.pointer (some ⟨g, 0, none⟩)] 209)) = w1 at *
  generalize w.heap.size = m at *
  go_region_held3 (fun W => W.cell? ⟨m, 0, none⟩ = some (.pointer (some ⟨g, 0, none⟩)) ∧ W.cell? ⟨g, 64, none⟩ = some (.int .i64 (bs.length : Int)))
    ((go_split_ands; (simp only [World.cell?_drew] at *); ((repeat' constructor) <;> first | assumption | (refine cell_keep_set ?_ ?_ <;> assumption) | (refine cell_keep_off ?_ (by decide); assumption))))
    (first | (go_at_call 167; refine (may_ok n size (60 - bs.length) H.out.2.2.2.2.2 H.out.2.2.2.1 H.out.2.2.1 (by have := H.out.2.2.2.2.1; omega) (by omega) _).mono ?_; rintro e w' ⟨rfl, rfl⟩))
  have hW2 : WrAt (w1.setCell ⟨g, 65, none⟩ (.int .i64 0)).drew g bs := (H.out.1.set65).keep ((Upd.refl (fun _ => False) _).drew) (fun h => h)
  have hU2 : Hid (Upd (fun j => j = g) w (w1.setCell ⟨g, 65, none⟩ (.int .i64 0)).drew) := (H.out.2.1.mono (fun _ _ h => h.elim)).trans ((upd_setCell _ _ _ _).drew)
  have c02 : (w1.setCell ⟨g, 65, none⟩ (.int .i64 0)).drew.cell? ⟨m, 0, none⟩ = some (.pointer (some ⟨g, 0, none⟩)) := by
    rw [World.cell?_drew]; exact cell_keep_set c0 hne
  rename_i hHeld
  clear hHeld
  generalize (w1.setCell ⟨g, 65, none⟩ (.int .i64 0)).drew = w2 at *
  have c65' := hW2.c65
  have HW := Lib.hid (And.intro hW2 c02)
  clear hW2 c0 c64 c65 z65
  go_wp2_with fail
  refine (low_any (w := w2) n size (Nat.lt_of_lt_of_le H.out.2.2.1 (Nat.pow_le_pow_right (n := 256) (by omega) h2)) h2 172 #[.pointer (some ⟨m, 0, none⟩)] (fun _ _ => rfl)
    (fun i W => WrAt W g (bs ++ lowB n i) ∧ Upd (fun j => j = g) w2 W) ⟨by simpa [lowB] using HW.out.1, Upd.refl _ _⟩ ?_).mono ?_
  · intro i hi W hJ
    refine (wput1 hJ.1 (by rw [List.length_append, lowB_len]; omega) (UInt8.ofNat (n / 256 ^ i)) (hJ.2.cellv HW.out.2 hne2) hne).mono ?_
    rintro e w' ⟨rfl, h3, h4⟩
    refine ⟨rfl, ?_, hJ.2.trans h4⟩
    rw [lowB_snoc, ← List.append_assoc]; exact h3
  · rintro e w3 ⟨rfl, hW3, hU3⟩
    have c03 := hU3.cellv HW.out.2 hne2
    have HZ := Lib.hid (And.intro hW3 hU3)
    clear hW3 hU3
    go_wp2
    go_ret
    exact ⟨rfl, HZ.out.1, hU2.out.trans HZ.out.2⟩
set_option maxRecDepth 100000 in
theorem seal1 {w : World} {gb ga : Nat} {x : Bk} {i : Nat} (hg : w.heap[gb]? = some (.cells (bkC x).toArray 23 (0, 0))) (hx : x.length = 64) (hi : i < 64) (b : UInt8)
    (ha : w.heap[ga]? = some (.cells #[.int .i64 (i : Int)] 3 (0, 0))) (hne : ¬ gb = ga) :
    Calls Tryz.prog 207 #[.int .u8 ((b.toNat : Nat) : Int), .pointer (some ⟨gb, 0, none⟩), .pointer (some ⟨ga, 0, none⟩)] w fun e w' => e = .returned (.tuple #[]) ∧
      w'.heap[gb]? = some (.cells (bkC (x.set i b)).toArray 23 (0, 0)) ∧ w'.heap[ga]? = some (.cells #[.int .i64 ((i + 1 : Nat) : Int)] 3 (0, 0)) ∧ Upd (fun j => j = gb ∨ j = ga) w w' := by
  have c0 : w.cell? ⟨ga, 0, none⟩ = some (.int .i64 (i : Int)) := cell_of_block ha 0
  have z0 := frozen_of_block ha 0
  have cb : ∃ v, w.cell? ⟨gb, i, none⟩ = some v := by
    rw [cell_of_block hg]
    exact ⟨_, Array.getElem?_eq_getElem (by rw [bkC_size _ hx]; exact hi)⟩
  obtain ⟨v0, cb⟩ := cb
  have zb := frozen_of_block hg i
  have hU : Upd (fun j => j = gb ∨ j = ga) w ((w.setCell ⟨gb, i, none⟩ (.int .u8 ((b.toNat : Nat) : Int))).setCell ⟨ga, 0, none⟩ (.int .i64 ((i : Int) + 1))) :=
    ((upd_setCell w gb i _).mono (fun _ _ h => .inl h)).trans ((upd_setCell _ _ _ _).mono (fun _ _ h => .inr h))
  have h1 := heap_setCell_same hg i (.int .u8 ((b.toNat : Nat) : Int))
  have h2 : ((w.setCell ⟨gb, i, none⟩ (.int .u8 ((b.toNat : Nat) : Int))).setCell ⟨ga, 0, none⟩ (.int .i64 ((i : Int) + 1))).heap[gb]? = some (.cells (bkC (x.set i b)).toArray 23 (0, 0)) := by
    rw [(upd_setCell _ ga 0 _).block gb (lt_of_block h1) hne, h1, List.setIfInBounds_toArray, bkC_set]; rfl
  have h3 : ((w.setCell ⟨gb, i, none⟩ (.int .u8 ((b.toNat : Nat) : Int))).setCell ⟨ga, 0, none⟩ (.int .i64 ((i : Int) + 1))).heap[ga]? = some (.cells #[.int .i64 ((i + 1 : Nat) : Int)] 3 (0, 0)) :=
    heap_setCell_same (((upd_setCell w gb i (.int .u8 ((b.toNat : Nat) : Int))).block ga (lt_of_block ha) (fun e => hne e.symm)).trans ha) 0 _
  have hb1 : 0 ≤ (i : Int) ∧ (i : Int) < 64 := ⟨by omega, by omega⟩
  obtain ⟨hb1, hb2⟩ := hb1
  have H := Lib.hid (And.intro h2 (And.intro h3 hU))
  clear hU h1 h2 h3 hg ha
  go_enter Tryz.func207, Tryz.ntmps207
  go_wp2
  go_end0
  exact ⟨rfl, H.out.1, H.out.2.1, H.out.2.2⟩
def sealTo (b : Bk) (i : Nat) : Bk := b.take 60 ++ lowB (crcC (b.take 60)) i ++ b.drop (60 + i)
theorem sealTo_len {b : Bk} (h : b.length = 64) {i : Nat} (hi : i ≤ 4) : (sealTo b i).length = 64 := by simp [sealTo, lowB_len, h]; omega
theorem sealTo_zero (b : Bk) : sealTo b 0 = b := by simp [sealTo, lowB]
theorem sealTo_four {b : Bk} (h : b.length = 64) : sealTo b 4 = sealB b := by
  unfold sealTo sealB
  rw [List.drop_of_length_le (by omega), List.append_nil]
theorem sealTo_set {b : Bk} (h : b.length = 64) {i : Nat} (hi : i < 4) : (sealTo b i).set (60 + i) (UInt8.ofNat (crcC (b.take 60) / 256 ^ i)) = sealTo b (i + 1) := by
  unfold sealTo
  have hl : (b.take 60 ++ lowB (crcC (b.take 60)) i).length = 60 + i := by simp [lowB_len, h]
  rw [List.set_append_right _ _ (by rw [hl]; exact Nat.le_refl _), hl, Nat.sub_self, lowB_snoc]
  have hd : b.drop (60 + i) = b[60 + i]'(by omega) :: b.drop (60 + (i + 1)) := List.drop_eq_getElem_cons (by omega)
  rw [hd, List.set_cons_zero]
  simp
theorem four_new (w : World) (A B C D : Obj) : let W := (((w.alloc A).alloc B).alloc C).alloc D
    W.heap[w.heap.size]? = some A ∧ W.heap[w.heap.size + 1]? = some B ∧ W.heap[w.heap.size + 1 + 1]? = some C ∧ W.heap[w.heap.size + 1 + 1 + 1]? = some D ∧ W.heap.size = w.heap.size + 4 ∧ Upd (fun _ => False) w W := by
  refine ⟨?_, ?_, ?_, heap_alloc_last _ _ (by simp), by simp, ((((Upd.refl _ w).alloc _).alloc _).alloc _).alloc _⟩
  · rw [Below.heap_alloc _ _ _ (by simp <;> omega), Below.heap_alloc _ _ _ (by simp <;> omega), Below.heap_alloc _ _ _ (by simp)]; exact heap_alloc_last w _ rfl
  · rw [Below.heap_alloc _ _ _ (by simp <;> omega), Below.heap_alloc _ _ _ (by simp)]; exact heap_alloc_last _ _ (by simp)
  · rw [Below.heap_alloc _ _ _ (by simp)]; exact heap_alloc_last _ _ (by simp)
set_option maxRecDepth 100000 in
set_option maxHeartbeats 1000000 in
theorem seal_any {w : World} (b : Bk) (hb : b.length = 64) (hN : Nib w) :
    Calls Tryz.prog 166 #[.agg (bkC b).toArray] w fun e w' => e = .returned (.agg (bkC (sealB b)).toArray) ∧ Below w.heap.size w w' := by
  have hmf : ∀ (fn : Fn) (first cap : Array Value) (w : World), (Instr.makeFunc fn first cap).run Tryz.prog w = .ok (.func fn first cap) w := fun _ _ _ _ => rfl
  have HN := Lib.hid hN
  have Hb := Lib.hid hb
  clear hN hb
  go_enter Tryz.func166, Tryz.ntmps166
  go_wp2_with fail
  show Calls _ _ _ ((((w.alloc (.cells (bkC b).toArray 23)).alloc (.cells (bkC zB).toArray 23)).alloc (.cells #[.int .i64 60] 3)).alloc (.cells #[.slice (some ⟨w.heap.size, 0, none⟩) 60 64] 220)) _
  obtain ⟨hA, hB, hC, hD, hS, hU⟩ := four_new w (.cells (bkC b).toArray 23) (.cells (bkC zB).toArray 23) (.cells #[.int .i64 60] 3) (.cells #[.slice (some ⟨w.heap.size, 0, none⟩) 60 64] 220)
  generalize (((w.alloc (.cells (bkC b).toArray 23)).alloc (.cells (bkC zB).toArray 23)).alloc (.cells #[.int .i64 60] 3)).alloc (.cells #[.slice (some ⟨w.heap.size, 0, none⟩) 60 64] 220) = w4 at *
  have hr := range_of_block hA
  have hrt : w4.rangeAt w.heap.size 0 (bkC (b.take 60)) := fun j v hv => by
    refine hr j v ?_
    have hj := (List.getElem?_eq_some_iff.1 hv).1
    rw [bkC_len, List.length_take] at hj
    simp only [bkC, List.getElem?_map] at hv ⊢
    rw [List.getElem?_take, if_pos (by omega)] at hv
    exact hv
  refine (sum_any (b.take 60) (HN.out.keep hU (fun h => h)) (cell_of_block hD 0) hrt (by rw [List.length_take, Hb.out]; rfl) (by omega) (by omega)).mono ?_
  rintro e w5 ⟨rfl, hb5⟩
  have hU5 : Upd (fun _ => False) w4 w5 := Upd.of_below hb5
  have hA5 := (hb5.block _ (lt_of_block hA)).trans hA
  have hB5 := (hb5.block _ (lt_of_block hB)).trans hB
  have hC5 := (hb5.block _ (lt_of_block hC)).trans hC
  have H5 := Lib.hid (And.intro hA5 (And.intro hB5 (And.intro hC5 (hU.trans hU5))))
  clear hA hB hC hD hS hU hr hrt hb5 hU5 hA5 hB5 hC5
  have Hs := Lib.hid (crcC_lt (b.take 60))
  obtain ⟨m, Hm⟩ : ∃ m, Hid (m = w.heap.size) := ⟨_, rfl⟩
  have hsum : Hid (∀ i, UInt8.ofNat (crcC (b.take 60) / 256 ^ i) = UInt8.ofNat (crcC (b.take 60) / 256 ^ i)) := fun _ => rfl
  go_wp2_with fail
  refine (low_any (w := w5) (crcC (b.take 60)) 4 (by have := Hs.out; omega) (by omega) 207 #[.pointer (some ⟨w.heap.size, 0, none⟩), .pointer (some ⟨w.heap.size + 1 + 1, 0, none⟩)] (fun _ _ => rfl)
    (fun i W => W.heap[w.heap.size]? = some (.cells (bkC (sealTo b i)).toArray 23 (0, 0)) ∧ W.heap[w.heap.size + 1 + 1]? = some (.cells #[.int .i64 ((60 + i : Nat) : Int)] 3 (0, 0)) ∧ Upd (fun j => j = w.heap.size ∨ j = w.heap.size + 1 + 1) w5 W) ⟨by rw [sealTo_zero]; exact H5.out.1, H5.out.2.2.1, Upd.refl _ _⟩ ?_).mono ?_
  · intro i hi W hJ
    refine (seal1 hJ.1 (sealTo_len Hb.out (by omega)) (by omega) (UInt8.ofNat (crcC (b.take 60) / 256 ^ i)) hJ.2.1 (by omega)).mono ?_
    rintro e w' ⟨rfl, h1, h2, h3⟩
    rw [sealTo_set Hb.out hi] at h1
    exact ⟨rfl, h1, h2, hJ.2.2.trans h3⟩
  · rintro e w6 ⟨rfl, h1, h2, h3⟩
    rw [sealTo_four Hb.out] at h1
    have hsl := sealB_len Hb.out
    have r6 := range_of_block h1
    have hg6 := (h3.block (w.heap.size + 1) (lt_of_block H5.out.2.1) (by omega)).trans H5.out.2.1
    have hth : w6.there (w.heap.size + 1) 0 64 := fun j hj => by
      rw [cell_of_block hg6, frozen_of_block hg6]
      exact ⟨by rw [Nat.zero_add, Array.getElem?_eq_getElem (by rw [bkC_size _ zB_len]; exact hj)]; rfl, rfl⟩
    have hst : w6.there (w.heap.size + 1) 0 (bkC (sealB b)).toArray.size := by rw [bkC_size _ hsl]; exact hth
    have hst2 : w6.there (w.heap.size + 1) 0 (bkC (sealB b)).length := by rw [bkC_len, hsl]; exact hth
    have hsz2 : (Tryz.prog.info? 23).map (·.size) = some (bkC (sealB b)).toArray.size := by rw [bkC_size _ hsl]; exact sizeBk'
    have HST := Lib.hid (And.intro hst (And.intro hsz2 (And.intro hst2 (And.intro hsl h3))))
    clear hst hsz2 hst2 hsl h3 h1 h2 hg6 hth
    generalize hsb : sealB b = sb at *
    have Hsb := Lib.hid hsb
    clear hsb
    go_wp2_with (first
      | (refine wpList_load_mid rfl _ _ rfl _ _ rfl _ _ r6 Tryz.underlying23 rfl (sizeBk _ HST.out.2.2.2.1) ?_)
      | (refine wpList_store_mid rfl _ _ _ rfl _ _ (bkC sb).toArray rfl rfl HST.out.1 HST.out.2.1 (all_oneCell_toArray (bkC_one _)) ?_)
      | fail)
    exact bodyPost_ret (results_mid1 rfl _ _ (w.heap.size + 1) 0 (bkC sb) _ rfl (World.rangeAt_setCells_same _ _ _ _ HST.out.2.2.1) Tryz.underlying23 rfl (sizeBk _ HST.out.2.2.2.1)) rfl
      ⟨by rw [Hsb.out], below_upd (below_upd (Upd.below H5.out.2.2.2) HST.out.2.2.2.2 (Nat.le_refl _) (fun k e => by omega)) (upd_row w6 (w.heap.size + 1) 0 _) (Nat.le_refl _) (fun k e => by omega)⟩
theorem Below.range {W W' : World} (hb : Below W.heap.size W W') {b o : Nat} {cs : List Value} (h : W.rangeAt b o cs) : W'.rangeAt b o cs :=
  (Upd.of_below (S := fun _ => False) hb).range h (fun h => h)
theorem bundrew' {w w' : World} (h : Below w.drew.heap.size w.drew w') : Below w.heap.size w w' := ⟨h.os, h.tape, h.output, h.size, h.block⟩
set_option maxRecDepth 100000 in
set_option maxHeartbeats 1000000 in
theorem wseal {w : World} {g : Nat} {bs : List UInt8} (h : WrAt w g bs) (hN : Nib w) :
    Calls Tryz.prog 128 #[.pointer (some ⟨g, 0, none⟩)] w fun e w' => e = .returned (.tuple #[.agg (bkC (sealB (padB bs))).toArray, .int .i64 0]) ∧ Below w.heap.size w w' := by
  have H := Lib.hid (And.intro h hN)
  have hlw := h.lt
  clear h hN
  have hu : Upd (fun _ => False) w (w.alloc (.cells (bkC zB).toArray 23)) := (Upd.refl _ w).alloc _
  have hg1 := heap_alloc_last w (.cells (bkC zB).toArray 23) rfl
  have h1 := H.out.1.keep hu (fun h => h)
  have c65 := H.out.1.c65
  have rr := H.out.1.range
  have hpl : Hid ((padB bs).length = 64) := padB_len (by have := h1.1; omega)
  have HX := Lib.hid (And.intro h1 (And.intro hu hg1))
  clear h1 hu hg1
  go_enter Tryz.func128, Tryz.ntmps128
  go_wp2_with (first
    | (refine wpList_load_mid rfl _ _ rfl _ _ rfl _ _ (World.rangeAt_alloc rr _) Tryz.underlying23 rfl (sizeBk _ hpl.out) ?_)
    | fail)
  show Calls _ _ _ (w.alloc (.cells (bkC zB).toArray 23)) _
  generalize (w.alloc (.cells (bkC zB).toArray 23)) = w1 at *
  obtain ⟨h1, hu, hg1⟩ := HX.out
  refine (seal_any (padB bs) hpl.out (H.out.2.keep hu (fun h => h))).mono ?_
  rintro e w6 ⟨rfl, hb⟩
  have hsl := sealB_len hpl.out
  have hg6 := (hb.block w.heap.size (lt_of_block hg1)).trans hg1
  have hth : w6.there w.heap.size 0 64 := fun j hj => by
    rw [cell_of_block hg6, frozen_of_block hg6]
    exact ⟨by rw [Nat.zero_add, Array.getElem?_eq_getElem (by rw [bkC_size _ zB_len]; exact hj)]; rfl, rfl⟩
  have hst : w6.there w.heap.size 0 (bkC (sealB (padB bs))).toArray.size := by rw [bkC_size _ hsl]; exact hth
  have hst2 : w6.there w.heap.size 0 (bkC (sealB (padB bs))).length := by rw [bkC_len, hsl]; exact hth
  have hsz2 : (Tryz.prog.info? 23).map (·.size) = some (bkC (sealB (padB bs))).toArray.size := by rw [bkC_size _ hsl]; exact sizeBk'
  have HST := Lib.hid (And.intro hst (And.intro hsz2 (And.intro hst2 (And.intro hsl (And.intro hb hu)))))
  clear hst hsz2 hst2 hsl hg6 hth h1 hu hg1 hb
  generalize hsb : sealB (padB bs) = sb at *
  have Hsb := Lib.hid hsb
  clear hsb
  go_wp2_with (first
    | (refine wpList_store_mid rfl _ _ _ rfl _ _ (bkC sb).toArray rfl rfl HST.out.1 HST.out.2.1 (all_oneCell_toArray (bkC_one _)) ?_)
    | fail)
  exact bodyPost_ret (results_mid2 rfl _ _ w.heap.size 0 (bkC sb) _ rfl (World.rangeAt_setCells_same _ _ _ _ HST.out.2.2.1) Tryz.underlying23 rfl (sizeBk _ HST.out.2.2.2.1)) rfl
      ⟨by rw [Hsb.out]; rfl, below_upd ((Upd.below HST.out.2.2.2.2.2).trans (HST.out.2.2.2.2.1.mono HST.out.2.2.2.2.2.size)) (upd_row w6 w.heap.size 0 _) (Nat.le_refl _) (fun k e => by omega)⟩
def bndC (B : List (Int × Int)) : List Value := B.flatMap fun p => [.int .i64 p.1, .int .i64 p.2]
theorem bndC_at {B : List (Int × Int)} {i : Nat} (hi : i < B.length) : (bndC B)[i * 2]? = some (.int .i64 B[i].1) ∧ (bndC B)[i * 2 + 1]? = some (.int .i64 B[i].2) := by
  induction B generalizing i with
  | nil => simp at hi
  | cons p B ih =>
    cases i with
    | zero => exact ⟨rfl, rfl⟩
    | succ i =>
      have := ih (i := i) (by simpa using hi)
      rw [show (i + 1) * 2 = i * 2 + 2 by omega]
      exact this
def inB (p : Int × Int) (x : Int) : Bool := decide (p.1 ≤ x) && decide (x ≤ p.2)
def withinB (B : List (Int × Int)) (xs : List Int) : Bool := (B.zip xs).all fun q => inB q.1 q.2
def Bnd (w : World) (v : Value) (B : List (Int × Int)) : Prop :=
  ∃ g h c, v = .func (.func 168) #[] #[.pointer (some ⟨g, 0, none⟩)] ∧ w.cell? ⟨g, 0, none⟩ = some (.slice (some ⟨h, 0, none⟩) B.length c) ∧ w.rangeAt h 0 (bndC B)
theorem Bnd.below {w w' : World} {v : Value} {B : List (Int × Int)} (h : Bnd w v B) (hb : Below w.heap.size w w') : Bnd w' v B := by
  obtain ⟨g, k, c, hv, hc, hr⟩ := h
  exact ⟨g, k, c, hv, (Upd.of_below (S := fun _ => False) hb).cellv hc (fun h => h), Below.range hb hr⟩
theorem ints_range {w : World} {g o : Nat} {xs : List Int} (h : w.rangeAt g o (ints xs)) {i : Nat} (hi : i < xs.length) : w.cell? ⟨g, o + i, none⟩ = some (.int .i64 xs[i]) := h i _ (get_ints hi)
theorem all_false_at {α : Type} {l : List α} {p : α → Bool} {k : Nat} (hk : k < l.length) (h : p l[k] = false) : l.all p = false := by
  rw [← Bool.not_eq_true]
  intro e
  rw [List.all_eq_true] at e
  have := e _ (List.getElem_mem hk)
  rw [h] at this; cases this
theorem within_ok {w : World} {h n c : Nat} : Calls Tryz.prog 115 #[.slice (some ⟨h, 0, none⟩) n c] w fun e w' => e = .returned (.func (.func 168) #[] #[.pointer (some ⟨w.heap.size, 0, none⟩)]) ∧ w' = w.alloc (.cells #[.slice (some ⟨h, 0, none⟩) n c] 265) := by
  have hmf : ∀ (fn : Fn) (first cap : Array Value) (w : World), (Instr.makeFunc fn first cap).run Tryz.prog w = .ok (.func fn first cap) w := fun _ _ _ _ => rfl
  go_enter Tryz.func115, Tryz.ntmps115
  go_wp2
  go_ret
  exact ⟨rfl, rfl⟩
theorem Bnd.made {w : World} {h c : Nat} {B : List (Int × Int)} (hr : w.rangeAt h 0 (bndC B)) : Bnd (w.alloc (.cells #[.slice (some ⟨h, 0, none⟩) B.length c] 265)) (.func (.func 168) #[] #[.pointer (some ⟨w.heap.size, 0, none⟩)]) B :=
  ⟨w.heap.size, h, c, rfl, cell_of_block (heap_alloc_last w _ rfl) 0, World.rangeAt_alloc hr _⟩
set_option maxRecDepth 100000 in
set_option maxHeartbeats 1000000 in
theorem within_any {w : World} {g h c gl ol m cl : Nat} (B : List (Int × Int)) (xs : List Int) (hc : w.cell? ⟨g, 0, none⟩ = some (.slice (some ⟨h, 0, none⟩) B.length c)) (hr : w.rangeAt h 0 (bndC B)) (hx : w.rangeAt gl ol (ints xs)) (hm : xs.length = m) (hB : B.length ≤ m) (hm2 : m ≤ 100) :
    Calls Tryz.prog 168 #[.slice (some ⟨gl, ol, none⟩) m cl, .pointer (some ⟨g, 0, none⟩)] w fun e w' => e = .returned (.bool (withinB B xs)) ∧ Below w.heap.size w w' := by
  have H := Lib.hid (And.intro hr (And.intro hx hm))
  clear hr hx hm
  go_enter Tryz.func168, Tryz.ntmps168
  go_wp2
  go_loopw [8] (fun s8 wr => ∃ k : Nat, k ≤ B.length ∧ s8 = .int .i64 k ∧ Below w.heap.size w wr ∧ ((B.zip xs).take k).all (fun q => inB q.1 q.2) = true) (fun s8 _ => B.length - (intOf s8).toNat)
  case atStart => exact ⟨0, Nat.zero_le _, rfl, Below.refl _ _, by simp⟩
  case round =>
    obtain ⟨k, hk, rfl, hb, ha⟩ := hrel
    have HA := Lib.hid (And.intro ha hb)
    by_cases hlt : k < B.length
    · obtain ⟨hr, hx, hm⟩ := H.out
      have hkx : k < xs.length := by omega
      have r1 := (Below.range hb hr) (k * 2) _ (bndC_at hlt).1
      have r2 := (Below.range hb hr) (k * 2 + 1) _ (bndC_at hlt).2
      have rx := ints_range (Below.range hb hx) hkx
      rw [Nat.zero_add] at r1 r2
      have hts : Hid (((B.zip xs).take (k + 1)) = (B.zip xs).take k ++ [(B[k], xs[k])]) := by
        show _ = _
        rw [List.take_succ_eq_append_getElem (by rw [List.length_zip]; omega), List.getElem_zip]
      obtain ⟨lo, hi, hp⟩ : ∃ lo hi, B[k] = (lo, hi) := ⟨_, _, rfl⟩
      have HP := Lib.hid hp
      rw [hp] at r1 r2
      simp only at r1 r2
      have b3 : (0 : Int) ≤ (k : Int) ∧ (k : Int) < (B.length : Int) ∧ (k : Int) < (m : Int) := by omega
      have hbl : wr.heap.size ≤ wr.heap.size := Nat.le_refl _
      clear hp ha hr hx hm hb
      obtain ⟨b3, b4, b5⟩ := b3
      obtain ⟨x, hxk⟩ : ∃ x, xs[k] = x := ⟨_, rfl⟩
      have HX := Lib.hid hxk
      rw [hxk] at rx
      have hglt : gl < wr.heap.size := World.block_lt_of_cell? wr _ rx
      clear hxk
      have hblw : Below w.heap.size w (wr.alloc (.cells #[.int .i64 lo, .int .i64 hi] 202)) := HA.out.2.alloc HA.out.2.size _
      by_cases h1 : x < lo
      · have hin : Hid (withinB B xs = false) := by
          show _ = _
          refine all_false_at (k := k) (by rw [List.length_zip]; omega) ?_
          rw [List.getElem_zip, HP.out, HX.out]
          simp [inB]; omega
        have q1 : decide (x < lo) = true := by simpa using h1
        clear h1
        have HB := Lib.hid hblw
        clear hblw
        go_wp2
        go_quiet (fail)
        go_wp2
        go_ret
        exact ⟨by rw [hin.out]; rfl, below_drewN HB.out _⟩
      · by_cases h2 : hi < x
        · have hin : Hid (withinB B xs = false) := by
            show _ = _
            refine all_false_at (k := k) (by rw [List.length_zip]; omega) ?_
            rw [List.getElem_zip, HP.out, HX.out]
            simp [inB]; omega
          have q1 : decide (x < lo) = false := by simpa using h1
          have q2 : decide (hi < x) = true := by simpa using h2
          clear h1 h2
          have HB := Lib.hid hblw
          clear hblw
          go_wp2
          go_quiet (fail)
          go_wp2
          go_ret
          exact ⟨by rw [hin.out]; rfl, below_drewN HB.out _⟩
        · have hin : Hid (inB (B[k], xs[k]).1 (B[k], xs[k]).2 = true) := by
            show _ = _
            rw [HP.out, HX.out]
            simp [inB]; omega
          have q1 : decide (x < lo) = false := by simpa using h1
          have q2 : decide (hi < x) = false := by simpa using h2
          clear h1 h2
          have HB := Lib.hid hblw
          clear hblw
          go_wp2
          go_quiet (fail)
          go_wp2
          go_roundw
          case rel => exact ⟨k + 1, by omega, by go_num, below_drewN HB.out _, by rw [hts.out, List.all_append, HA.out.1]; simpa using hin.out⟩
          case measure => simp [intOf]; omega
    · obtain rfl : k = B.length := by omega
      have hin : Hid (withinB B xs = true) := by
        have := HA.out.1
        rw [List.take_of_length_le (by rw [List.length_zip]; omega)] at this
        exact this
      go_wp2
      go_ret
      exact ⟨by rw [hin.out]; rfl, HA.out.2⟩
theorem five_new (w : World) (A B C D E : Obj) : let W := ((((w.alloc A).alloc B).alloc C).alloc D).alloc E
    W.heap[w.heap.size]? = some A ∧ W.heap[w.heap.size + 1]? = some B ∧ W.heap[w.heap.size + 1 + 1]? = some C ∧ W.heap[w.heap.size + 1 + 1 + 1]? = some D ∧ W.heap[w.heap.size + 1 + 1 + 1 + 1]? = some E ∧ W.heap.size = w.heap.size + 5 ∧ Upd (fun _ => False) w W := by
  obtain ⟨h1, h2, h3, h4, h5, h6⟩ := four_new w A B C D
  refine ⟨?_, ?_, ?_, ?_, heap_alloc_last _ _ (by simp), by simp, h6.alloc _⟩
  · rw [Below.heap_alloc _ _ _ (lt_of_block h1)]; exact h1
  · rw [Below.heap_alloc _ _ _ (lt_of_block h2)]; exact h2
  · rw [Below.heap_alloc _ _ _ (lt_of_block h3)]; exact h3
  · rw [Below.heap_alloc _ _ _ (lt_of_block h4)]; exact h4
def encB (l : List (Nat × Nat)) : List UInt8 := l.flatMap fun p => lowB p.1 p.2
theorem encB_snoc (l : List (Nat × Nat)) (p : Nat × Nat) : encB (l ++ [p]) = encB l ++ lowB p.1 p.2 := by simp [encB]
def sizes (l : List (Nat × Nat)) : Nat := (l.map (·.2)).sum
theorem encB_len (l : List (Nat × Nat)) : (encB l).length = sizes l := by
  induction l with
  | nil => rfl
  | cons p l ih => simp only [encB, sizes, List.flatMap_cons, List.length_append, lowB_len, List.map_cons, List.sum_cons] at ih ⊢; rw [ih]
theorem sizes_take (l : List (Nat × Nat)) {i : Nat} (hi : i < l.length) : sizes (l.take i) + l[i].2 ≤ sizes l := by
  have h := congrArg sizes (List.take_append_drop (i + 1) l)
  rw [List.take_succ_eq_append_getElem hi] at h
  simp only [sizes, List.map_append, List.sum_append, List.map_cons, List.map_nil, List.sum_cons, List.sum_nil] at h ⊢
  omega
def Fits (l : List (Nat × Nat)) : Prop := (∀ p ∈ l, p.1 < 256 ^ p.2 ∧ 1 ≤ p.2 ∧ p.2 ≤ 7) ∧ sizes l ≤ 59
def numsL (l : List (Nat × Nat)) : List Int := l.map fun p => (p.1 : Int)
def sizesL (l : List (Nat × Nat)) : List Int := l.map fun p => (p.2 : Int)
theorem numsL_get {l : List (Nat × Nat)} {i : Nat} (h : i < l.length) : (ints (numsL l))[i]? = some (.int .i64 (l[i].1 : Int)) := by
  rw [get_ints (by simpa [numsL] using h)]; simp [numsL]
theorem sizesL_get {l : List (Nat × Nat)} {i : Nat} (h : i < l.length) : (ints (sizesL l))[i]? = some (.int .i64 (l[i].2 : Int)) := by
  rw [get_ints (by simpa [sizesL] using h)]; simp [sizesL]
def sectB (k : Nat) (l : List (Nat × Nat)) : Bk := sealB (padB (lowB k 1 ++ encB l))
theorem sect_pad_len {k : Nat} {l : List (Nat × Nat)} (h : sizes l ≤ 59) : (padB (lowB k 1 ++ encB l)).length = 64 := padB_len (by simp [lowB_len, encB_len]; omega)
theorem sectB_len {k : Nat} {l : List (Nat × Nat)} (h : sizes l ≤ 59) : (sectB k l).length = 64 := sealB_len (sect_pad_len h)
theorem three_new (w : World) (A B C : Obj) : let W := ((w.alloc A).alloc B).alloc C
    W.heap[w.heap.size]? = some A ∧ W.heap[w.heap.size + 1]? = some B ∧ W.heap[w.heap.size + 1 + 1]? = some C ∧ W.heap.size = w.heap.size + 3 ∧ Upd (fun _ => False) w W := by
  refine ⟨?_, ?_, heap_alloc_last _ _ (by simp), by simp, (((Upd.refl _ w).alloc _).alloc _).alloc _⟩
  · rw [Below.heap_alloc _ _ _ (by simp <;> omega), Below.heap_alloc _ _ _ (by simp)]; exact heap_alloc_last w _ rfl
  · rw [Below.heap_alloc _ _ _ (by simp)]; exact heap_alloc_last _ _ (by simp)
def natsI (l : List Nat) : List Int := l.map fun (n : Nat) => (n : Int)
def TellPostC (W : World) (m : Nat) (xs : List Int) (e : Ending) (W' : World) : Prop := ∃ g c, e = .returned (.slice (some ⟨g, 0, none⟩) m c) ∧ m ≤ c ∧ c ≤ maxLen ∧ W'.rangeAt g 0 (ints xs) ∧ Below W.heap.size W W'
def numL (sz : List Nat) (xs : List Int) : List (Nat × Nat) := (xs.map Int.toNat).zip sz
theorem numL_len {sz : List Nat} {xs : List Int} (h : xs.length = sz.length) : (numL sz xs).length = sz.length := by simp [numL, h]
theorem numL_szs {sz : List Nat} {xs : List Int} (h : xs.length = sz.length) : sizesL (numL sz xs) = natsI sz := by
  unfold sizesL natsI numL
  rw [show (fun (p : Nat × Nat) => (p.2 : Int)) = (fun (n : Nat) => (n : Int)) ∘ Prod.snd from rfl, ← List.map_map, List.map_snd_zip (by simp [h])]
theorem numL_sizes {sz : List Nat} {xs : List Int} (h : xs.length = sz.length) : sizes (numL sz xs) = sz.sum := by
  unfold sizes numL
  rw [List.map_snd_zip (by simp [h])]
theorem numL_nums {sz : List Nat} {xs : List Int} (h : xs.length = sz.length) (h0 : ∀ x ∈ xs, 0 ≤ x) : numsL (numL sz xs) = xs := by
  unfold numsL numL
  rw [show (fun (p : Nat × Nat) => (p.1 : Int)) = (fun (n : Nat) => (n : Int)) ∘ Prod.fst from rfl, ← List.map_map, List.map_fst_zip (by simp [h]), List.map_map]
  conv => rhs; rw [← List.map_id xs]
  exact List.map_congr_left (fun x hx => by simp [Int.toNat_of_nonneg (h0 x hx)])
theorem numL_fits {sz : List Nat} {xs : List Int} (h : xs.length = sz.length) (hs : sz.sum ≤ 59) (hz : ∀ s ∈ sz, 1 ≤ s ∧ s ≤ 7) (hb : ∀ i (h1 : i < xs.length) (h2 : i < sz.length), 0 ≤ xs[i] ∧ xs[i] < 256 ^ sz[i]) : Fits (numL sz xs) := by
  refine ⟨fun p hp => ?_, by rw [numL_sizes h]; exact hs⟩
  obtain ⟨i, hi, rfl⟩ := List.getElem_of_mem hp
  rw [numL_len h] at hi
  have h1 : i < xs.length := by omega
  have := hb i h1 hi
  simp only [numL, List.getElem_zip, List.getElem_map]
  have h3 := hz sz[i] (List.getElem_mem hi)
  refine ⟨?_, h3.1, h3.2⟩
  have h4 : ((256 ^ sz[i] : Nat) : Int) = (256 : Int) ^ sz[i] := by simp
  omega
end Go.Proofs.YtnadilfobmgebaaGreatDoor
