/- Maps from ints to values of whatever form, in memory, as functions; a range over one. Blocks of 64 bytes, rows of them in memory. Sums of bytes, bytes of numbers: the plain law; what bits of numbers come to. A device in memory: New, Size, Open, has; the fate of a call. A device: call; Write, Flush, Read, Firm. An open write, as it is built. -/
import Derived.Test.YtfhfbpmlnjdfoaaGreatDoorA01
import Derived.Maps.RangeWalk
import Derived.Deep.MidRow
import Derived.Stop.BytesEq
import Derived.Laws.ResultCell
import Derived.Laws.Bits64b
import Derived.Deep.RegionHeld3
import Derived.Great.BuildSlice
namespace Go.Proofs.YtfhfbpmlnjdfoaaGreatDoor
open Go Go.RowKit Go.Maps
theorem litInj {x y : Int} (e : Lit.int .i64 x = Lit.int .i64 y) : x = y := by injection e
section
variable {α : Type}
open Classical in
noncomputable def decR (enc : α → Value) (v : Value) : Option (DataW α × List MemPlace) := if h : ∃ e, v = enc e then some (.held (Classical.choose h), []) else none
variable {enc : α → Value}
theorem decR_enc (hi : ∀ x y, enc x = enc y → x = y) (e : α) : decR enc (enc e) = some (.held e, []) := by
  have h : ∃ e', enc e = enc e' := ⟨e, rfl⟩
  unfold decR
  rw [dif_pos h, ← hi _ _ (Classical.choose_spec h)]
theorem decR_inv {v : Value} {y : DataW α × List MemPlace} (h : decR enc v = some y) : ∃ e, v = enc e ∧ y = (.held e, []) := by
  unfold decR at h
  split at h
  · rename_i hx
    cases h
    exact ⟨_, Classical.choose_spec hx, rfl⟩
  · cases h
def ReadsG (D : DataW α) (f : Int → Option α) : Prop := ∀ s : Int, Maps.has D (.int .i64 s) = (f s).isSome ∧ ∀ c, f s = some c → ∀ z, D.atKey (.int .i64 s) z = .held c
variable (enc)
def MapG (w : World) (mb N : Nat) (f : Int → Option α) : Prop := ∃ D : DataW α, w.ownsMap Tryz.prog 3 (decR enc) mb N D ∧ ReadsG D f
def RngG (w : World) (mb r N : Nat) (f : Int → Option α) (left : Int → Bool) (cnt : Nat) : Prop :=
  ∃ (D : DataW α) (lf : Lit → Bool), w.ranges Tryz.prog 3 (decR enc) mb r N D lf cnt ∧ ReadsG D f ∧ ∀ s : Int, lf (.int .i64 s) = left s
variable {enc}
variable {w : World} {mb N : Nat} {f : Int → Option α}
theorem MapG.lt (h : MapG enc w mb N f) : mb < w.heap.size := by obtain ⟨D, h, _⟩ := h; exact h.lt
theorem MapG.keep {w' : World} (h : MapG enc w mb N f) {S : Nat → Prop} (hu : Upd S w w') (hs : ¬ S mb) : MapG enc w' mb N f := by
  obtain ⟨D, ⟨es, clock, hb, r⟩, hf⟩ := h
  exact ⟨D, ⟨es, clock, (hu.block _ (lt_of_block hb) hs).trans hb, r⟩, hf⟩
theorem MapG.mono {N' : Nat} (h : MapG enc w mb N f) (hn : N ≤ N') : MapG enc w mb N' f := by obtain ⟨D, h, hf⟩ := h; exact ⟨D, h.mono hn, hf⟩
theorem MapG.made (w : World) : MapG enc (w.alloc (.map #[] 0)) w.heap.size 0 (fun _ => none) :=
  ⟨.map [], World.ownsMap_made w _ _ _, fun s => ⟨rfl, fun c h => by cases h⟩⟩
theorem MapG.look (h : MapG enc w mb N f) (hi : ∀ x y, enc x = enc y → x = y) {t e : TypeId} (ht : Tryz.prog.underlying t = some (.map 3 e)) {z0 : α} (hz : (zeroValue e).run Tryz.prog w = .ok (enc z0) w) {x : Int} (h1 : -9223372036854775808 ≤ x) (h2 : x < 9223372036854775808) :
    (Instr.lookup t (.map (some mb)) (.int .i64 x) true).run Tryz.prog w = .ok (.tuple #[enc ((f x).getD z0), .bool (f x).isSome]) w := by
  obtain ⟨D, ho, hf⟩ := h
  obtain ⟨v, ps, hr, hv⟩ := ho.look_ok keyedI ht hz (decR_enc hi z0) (keyI h1 h2)
  obtain ⟨c, rfl, hc⟩ := decR_inv hv
  simp only [Prod.mk.injEq] at hc
  rw [hr, (hf x).1]
  have : c = (f x).getD z0 := by
    cases hx : f x with
    | none =>
      have h0 := (hf x).1
      rw [hx] at h0
      have := atKey_of_not_has (D := D) h0 (.held z0)
      rw [this] at hc
      exact (DataW.held.inj hc.1).symm
    | some c' =>
      have := (hf x).2 c' hx (.held z0)
      rw [this] at hc
      exact (DataW.held.inj hc.1).symm
  rw [this]
theorem MapG.drop (h : MapG enc w mb N f) {t e : TypeId} (ht : Tryz.prog.underlying t = some (.map 3 e)) {x : Int} (h1 : -9223372036854775808 ≤ x) (h2 : x < 9223372036854775808) (ty : TypeId) :
    ∃ w', (Builtin.delete_ #[t, 3] ty #[.map (some mb), .int .i64 x]).run Tryz.prog w = .ok (.tuple #[]) w' ∧ MapG enc w' mb N (fun s => if s = x then none else f s) ∧ Upd (fun j => j = mb) w w' ∧ w'.heap.size = w.heap.size := by
  obtain ⟨D, ho, hf⟩ := h
  obtain ⟨w', hr, ho', ht'⟩ := ho.drop keyedI ht (keyI h1 h2) ty
  refine ⟨w', hr, ⟨_, ho', fun s => ?_⟩, upd_turned ht', turned_size ht'⟩
  by_cases hs : s = x
  · subst hs
    simp [has_del_same]
  · have hne : Lit.int .i64 s ≠ Lit.int .i64 x := fun e => hs (litInj e)
    simp only [if_neg hs, has_del_other hne]
    exact ⟨(hf s).1, fun c hc z => by rw [atKey_del_other hne]; exact (hf s).2 c hc z⟩
theorem MapG.store (h : MapG enc w mb N f) (hi : ∀ x y, enc x = enc y → x = y) {t e : TypeId} (ht : Tryz.prog.underlying t = some (.map 3 e)) {x : Int} (h1 : -9223372036854775808 ≤ x) (h2 : x < 9223372036854775808) (c : α) (hn : N < maxLen) :
    ∃ w', (Instr.mapUpdate t (.map (some mb)) (.int .i64 x) (enc c)).run Tryz.prog w = .ok () w' ∧ MapG enc w' mb (N + 1) (fun s => if s = x then some c else f s) ∧ Upd (fun j => j = mb) w w' ∧ w'.heap.size = w.heap.size := by
  obtain ⟨D, ho, hf⟩ := h
  have hM := ho.isMap
  have hK : ∀ y : Int, WideAt.IsKeyLit (.int .i64 y) := fun _ => trivial
  obtain ⟨w', hr, ho', ht'⟩ := ho.store (ps := []) (d := .held c) keyedI ht hn (keyI h1 h2) (decR_enc hi c)
  refine ⟨w', hr, ⟨_, ho', fun s => ?_⟩, upd_turned ht', turned_size ht'⟩
  by_cases hs : s = x
  · subst hs
    simp only [if_pos]
    exact ⟨by rw [has_put_same hM (hK _)]; rfl, fun c' hc' z => by obtain rfl := Option.some.inj hc'; exact atKey_put_same hM (hK _) _ _⟩
  · have hne : Lit.int .i64 s ≠ Lit.int .i64 x := fun e => hs (litInj e)
    simp only [if_neg hs, has_put_other hne]
    exact ⟨(hf s).1, fun c hc z => by rw [atKey_put_other hne]; exact (hf s).2 c hc z⟩
theorem MapG.look1 (h : MapG enc w mb N f) (hi : ∀ x y, enc x = enc y → x = y) {t e : TypeId} (ht : Tryz.prog.underlying t = some (.map 3 e)) {z0 : α} (hz : (zeroValue e).run Tryz.prog w = .ok (enc z0) w) {x : Int} (h1 : -9223372036854775808 ≤ x) (h2 : x < 9223372036854775808) :
    (Instr.lookup t (.map (some mb)) (.int .i64 x) false).run Tryz.prog w = .ok (enc ((f x).getD z0)) w := by
  obtain ⟨D, ho, hf⟩ := h
  obtain ⟨v, ps, hr, hv⟩ := ho.lookup keyedI ht hz (decR_enc hi z0) (keyI h1 h2)
  obtain ⟨c, rfl, hc⟩ := decR_inv hv
  simp only [Prod.mk.injEq] at hc
  rw [hr]
  have : c = (f x).getD z0 := by
    cases hx : f x with
    | none =>
      have h0 := (hf x).1
      rw [hx] at h0
      have := atKey_of_not_has (D := D) h0 (.held z0)
      rw [this] at hc
      exact (DataW.held.inj hc.1).symm
    | some c' =>
      have := (hf x).2 c' hx (.held z0)
      rw [this] at hc
      exact (DataW.held.inj hc.1).symm
  rw [this]
variable (enc) in
def MapC (w : World) (mb N : Nat) (f : Int → Option α) (c : Nat) : Prop := ∃ D : DataW α, w.ownsMap Tryz.prog 3 (decR enc) mb N D ∧ ReadsG D f ∧ Maps.size D = c
theorem MapC.g {c : Nat} (h : MapC enc w mb N f c) : MapG enc w mb N f := by obtain ⟨D, h1, h2, -⟩ := h; exact ⟨D, h1, h2⟩
theorem MapC.keep {c : Nat} {w' : World} (h : MapC enc w mb N f c) {S : Nat → Prop} (hu : Upd S w w') (hs : ¬ S mb) : MapC enc w' mb N f c := by
  obtain ⟨D, ⟨es, clock, hb, r⟩, hf, hc⟩ := h
  exact ⟨D, ⟨es, clock, (hu.block _ (lt_of_block hb) hs).trans hb, r⟩, hf, hc⟩
theorem MapC.made (w : World) : MapC enc (w.alloc (.map #[] 0)) w.heap.size 0 (fun _ => none) 0 :=
  ⟨.map [], World.ownsMap_made w _ _ _, fun s => ⟨rfl, fun c h => by cases h⟩, rfl⟩
theorem MapC.len {c : Nat} (h : MapC enc w mb N f c) {t e : TypeId} (ht : Tryz.prog.underlying t = some (.map 3 e)) (ty : TypeId) : (Builtin.len_ #[t] ty #[.map (some mb)]).run Tryz.prog w = .ok (.int .i64 (c : Int)) w := by
  obtain ⟨D, h, -, rfl⟩ := h
  exact h.len ht ty
theorem MapC.store {c0 : Nat} (h : MapC enc w mb N f c0) (hi : ∀ x y, enc x = enc y → x = y) {t e : TypeId} (ht : Tryz.prog.underlying t = some (.map 3 e)) {x : Int} (h1 : -9223372036854775808 ≤ x) (h2 : x < 9223372036854775808) (c : α) (hn : N < maxLen) :
    ∃ w', (Instr.mapUpdate t (.map (some mb)) (.int .i64 x) (enc c)).run Tryz.prog w = .ok () w' ∧ MapC enc w' mb (N + 1) (fun s => if s = x then some c else f s) (if (f x).isSome then c0 else c0 + 1) ∧ Upd (fun j => j = mb) w w' ∧ w'.heap.size = w.heap.size := by
  obtain ⟨D, ho, hf, hc0⟩ := h
  have hM := ho.isMap
  have hK : ∀ y : Int, WideAt.IsKeyLit (.int .i64 y) := fun _ => trivial
  obtain ⟨w', hr, ho', ht'⟩ := ho.store (ps := []) (d := .held c) keyedI ht hn (keyI h1 h2) (decR_enc hi c)
  refine ⟨w', hr, ⟨_, ho', fun s => ?_, ?_⟩, upd_turned ht', turned_size ht'⟩
  · by_cases hs : s = x
    · subst hs
      simp only [if_pos]
      exact ⟨by rw [has_put_same hM (hK _)]; rfl, fun c' hc' z => by obtain rfl := Option.some.inj hc'; exact atKey_put_same hM (hK _) _ _⟩
    · have hne : Lit.int .i64 s ≠ Lit.int .i64 x := fun e => hs (litInj e)
      simp only [if_neg hs, has_put_other hne]
      exact ⟨(hf s).1, fun c hc z => by rw [atKey_put_other hne]; exact (hf s).2 c hc z⟩
  · rw [size_put (ho.tidy keyedI), (hf x).1, hc0]
theorem RngG.lt {r : Nat} {left : Int → Bool} {cnt : Nat} (h : RngG enc w mb r N f left cnt) : mb < w.heap.size ∧ r < w.heap.size := by
  obtain ⟨D, lf, h, -, -⟩ := h
  exact ⟨h.owns.lt, h.lt⟩
theorem RngG.keep {r : Nat} {left : Int → Bool} {cnt : Nat} {w' : World} (h : RngG enc w mb r N f left cnt) {S : Nat → Prop} (hu : Upd S w w') (h1 : ¬ S mb) (h2 : ¬ S r) : RngG enc w' mb r N f left cnt := by
  obtain ⟨l1, l2⟩ := h.lt
  obtain ⟨D, lf, ⟨es, clock, since, seen, c0, hb, F, hs, hD, hr, rest⟩, hf, hl⟩ := h
  exact ⟨D, lf, ⟨es, clock, since, seen, c0, (hu.block mb l1 h1).trans hb, F, hs, hD, (hu.block r l2 h2).trans hr, rest⟩, hf, hl⟩
end
section
variable {α : Type} {enc : α → Value} {w : World} {ops : Array Oper} {rest : List Oper} {o : Oper} {a : Act} {Q : Exit → Act → World → Prop} {mb N : Nat} {f : Int → Option α}
theorem wpList_range_G (hg : o.guard = none) (m : Operand) (t : TypeId) (hop : o.op = Op.range t m) {e : TypeId} (ht : Tryz.prog.underlying t = some (.map 3 e))
    (hm : a.eval m = .map (some mb)) (h : MapG enc w mb N f)
    (hK : ∀ w', (∃ cnt, cnt ≤ N ∧ RngG enc w' mb w.heap.size N f (fun s => (f s).isSome) cnt) → Upd (fun _ => False) w w' → w'.heap.size = w.heap.size + 1 → wpList Tryz.prog ops Q rest (a.put o.dst (.pointer (some ⟨w.heap.size, 0, none⟩))) w') :
    wpList Tryz.prog ops Q (o :: rest) a w := by
  obtain ⟨D, ho, hf⟩ := h
  exact wpList_range_own w hg m t hop 3 e keyedI ht (decR enc) mb N D hm ho (fun w' h1 h2 h3 => hK w' ⟨_, ho.size_le, D, _, h1, hf, fun s => (hf s).1⟩ (Upd.of_grown h2 (fun g hg => by cases hg)) h3)
theorem wpList_next_G (hg : o.guard = none) (it : Operand) (hop : o.op = Op.next it false) {r cnt : Nat} {left : Int → Bool}
    (hit : a.eval it = .pointer (some ⟨r, 0, none⟩)) (h : RngG enc w mb r N f left cnt)
    (hDone : (∀ s, left s = false) → wpList Tryz.prog ops Q rest (a.put o.dst (.tuple #[.bool false])) w)
    (hMore : ∀ (x : Int) (c : α) (w' : World), left x = true → f x = some c → (∃ cnt', cnt' < cnt ∧ RngG enc w' mb r N f (fun z => left z && !decide (z = x)) cnt') → Upd (fun j => j = r) w w' → w'.heap.size = w.heap.size →
      (Instr.entry (.pointer (some ⟨r, 0, none⟩))).run Tryz.prog w' = .ok (.tuple #[.int .i64 x, enc c]) w' → wpList Tryz.prog ops Q rest (a.put o.dst (.tuple #[.bool true, .int .i64 x, enc c])) w') :
    wpList Tryz.prog ops Q (o :: rest) a w := by
  obtain ⟨D, lf, h, hf, hl⟩ := h
  refine wpList_next_ranges w hg it hop 3 keyedI (decR enc) (Value.int .i64) enc (fun key kl hk => ?_) (fun v y hv => ?_) mb r N D lf cnt hit h (fun _ h0 => hDone (fun s => by rw [← hl, h0])) (fun x c kl y w' cnt' hkey hlk hv hat hrg hlt hgr hsz hen => ?_)
  · obtain ⟨x, hx, -⟩ := Maps.keyOf_int_inv Tryz.underlying3 hk
    exact ⟨x, hx⟩
  · obtain ⟨e, he, -⟩ := decR_inv hv
    exact ⟨e, he⟩
  · obtain ⟨x', ex, rfl, -⟩ := Maps.keyOf_int_inv Tryz.underlying3 hkey
    cases ex
    obtain ⟨c', ec, rfl⟩ := decR_inv hv
    have hfx : f x = some c' := by
      have h1 := has_true_of_atKey hat
      rw [(hf x).1] at h1
      obtain ⟨c2, hc2⟩ := Option.isSome_iff_exists.1 h1
      have h2 := (hf x).2 c2 hc2 (.held c2)
      rw [hat] at h2
      rw [hc2, DataW.held.inj h2]
    rw [ec] at hen ⊢
    refine hMore x c' w' (by rw [← hl]; exact hlk) hfx ⟨cnt', hlt, D, _, hrg, hf, fun s => ?_⟩ (Upd.of_grown hgr (fun g hg _ => (Option.some.inj hg).symm)) hsz hen
    show (lf (.int .i64 s) && !(Lit.int .i64 s).sameKey (.int .i64 x)) = _
    rw [hl]
    by_cases hs : s = x
    · subst hs
      rw [WideAt.sameKey_self (show WideAt.IsKeyLit (.int .i64 s) from trivial), show (fun z => left z && !decide (z = s)) s = (left s && !decide (s = s)) from rfl, decide_eq_true rfl]
    · rw [sameKey_ne (fun e => hs (litInj e)), show (fun z => left z && !decide (z = x)) s = (left s && !decide (s = x)) from rfl, decide_eq_false hs]
end
end Go.Proofs.YtfhfbpmlnjdfoaaGreatDoor
namespace Go.Proofs.YtfhfbpmlnjdfoaaGreatDoor
open Go Go.RowKit
abbrev Bk := List UInt8
def bkC (x : Bk) : List Value := x.map Go.Extern.Stop.cell
def bkV (x : Bk) : Value := .agg (bkC x).toArray
def rowC (F : List Bk) : List Value := F.flatMap bkC
theorem bkC_len (x : Bk) : (bkC x).length = x.length := by simp [bkC]
theorem bkC_one (x : Bk) : ∀ v ∈ bkC x, v.oneCell' = true := by intro v hv; simp only [bkC, List.mem_map] at hv; obtain ⟨b, _, rfl⟩ := hv; rfl
def All64 (F : List Bk) : Prop := ∀ x ∈ F, x.length = 64
theorem rowC_len {F : List Bk} (h : All64 F) : (rowC F).length = F.length * 64 := by
  induction F with
  | nil => rfl
  | cons x F ih =>
    have h1 := h x (by simp)
    have h2 := ih (fun y hy => h y (by simp [hy]))
    simp only [rowC, List.flatMap_cons, List.length_append, bkC_len] at h2 ⊢
    rw [h1, List.length_cons]
    omega
theorem rowC_at {F : List Bk} (h : All64 F) {i : Nat} (hi : i < F.length) {j : Nat} (hj : j < 64) : (rowC F)[i * 64 + j]? = (bkC F[i])[j]? := by
  induction F generalizing i with
  | nil => simp at hi
  | cons x F ih =>
    have h1 := h x (by simp)
    cases i with
    | zero =>
      simp only [rowC, List.flatMap_cons, Nat.zero_mul, Nat.zero_add, List.getElem_cons_zero]
      rw [List.getElem?_append_left (by rw [bkC_len, h1]; exact hj)]
    | succ i =>
      simp only [rowC, List.flatMap_cons, List.getElem_cons_succ]
      rw [List.getElem?_append_right (by rw [bkC_len, h1]; omega), bkC_len, h1]
      have := ih (fun y hy => h y (by simp [hy])) (i := i) (by simpa using hi)
      rw [← this]
      congr 1
      omega
theorem All64.set {F : List Bk} (h : All64 F) (i : Nat) {x : Bk} (hx : x.length = 64) : All64 (F.set i x) := by
  intro y hy
  rcases List.mem_or_eq_of_mem_set hy with h1 | rfl
  · exact h y h1
  · exact hx
theorem row_range {w : World} {g off : Nat} {cur : Array Value} {e : TypeId} {F : List Bk} (hF : All64 F) (hg : w.heap[g]? = some (.cells cur e (0, 0))) (hc : ∀ j u, (rowC F)[j]? = some u → cur[off + j]? = some u) {i : Nat} (hi : i < F.length) :
    w.rangeAt g (off + i * 64) (bkC F[i]) := by
  intro j v hj
  have hj' := (List.getElem?_eq_some_iff.1 hj).1
  rw [bkC_len, hF _ (List.getElem_mem hi)] at hj'
  rw [cell_of_block hg, Nat.add_assoc]
  exact hc _ _ (by rw [rowC_at hF hi hj']; exact hj)
theorem row_there {w : World} {g off n : Nat} {cur : Array Value} {e : TypeId} (hg : w.heap[g]? = some (.cells cur e (0, 0))) {i : Nat} (hi : i < n) (hz : off + n * 64 ≤ cur.size) : w.there g (off + i * 64) 64 := by
  intro j hj
  rw [cell_of_block hg, frozen_of_block hg]
  exact ⟨by rw [Array.getElem?_eq_getElem (by omega)]; rfl, rfl⟩
theorem Sl.row_set {w : World} {e : TypeId} {g off cap : Nat} {F : List Bk} (hF : All64 F) (h : Sl w e 64 (.slice (some ⟨g, off, none⟩) F.length cap) F.length (rowC F)) {i : Nat} (_ : i < F.length) {x : Bk} (hx : x.length = 64) :
    Sl (w.setCells g (off + i * 64) (bkC x)) e 64 (.slice (some ⟨g, off, none⟩) (F.set i x).length cap) (F.set i x).length (rowC (F.set i x)) := by
  obtain ⟨hl, ⟨h1, _⟩ | ⟨g', off', cap', cur, h1, hg, hn, hm, hs, hc⟩⟩ := h
  · cases h1
  cases h1
  obtain ⟨cur', hb, hz, hget⟩ := heap_setCells_same (bkC x) (off + i * 64) w g cur e (0, 0) hg
  refine ⟨rowC_len (hF.set i hx), .inr ⟨g, off, cap, cur', rfl, hb, by simpa using hn, hm, by omega, fun j u hj => ?_⟩⟩
  have hj' := (List.getElem?_eq_some_iff.1 hj).1
  rw [rowC_len (hF.set i hx), List.length_set] at hj'
  have hdm : j = j / 64 * 64 + j % 64 := by omega
  have hjm : j % 64 < 64 := Nat.mod_lt _ (by omega)
  have hjd : j / 64 < F.length := by omega
  rw [hdm, rowC_at (hF.set i hx) (by rw [List.length_set]; exact hjd) hjm, List.getElem_set] at hj
  rw [hget, bkC_len, hx]
  by_cases hij : i = j / 64
  · rw [if_pos hij] at hj
    rw [if_pos ⟨by omega, by omega, by omega⟩, show off + j - (off + i * 64) = j % 64 by omega]
    exact hj
  · rw [if_neg hij] at hj
    rw [if_neg (by omega)]
    refine hc j u ?_
    rw [hdm, rowC_at hF hjd hjm]
    exact hj
theorem upd_row (w : World) (g o : Nat) (vs : List Value) : Upd (fun j => j = g) w (w.setCells g o vs) := upd_setCells _ w g o vs rfl
theorem alloc_set (w : World) (cs : Array Value) (t : TypeId) (i : Nat) (v : Value) : (w.alloc (.cells cs t)).setCell ⟨w.heap.size, i, none⟩ v = w.alloc (.cells (cs.setIfInBounds i v) t) := by
  simp only [World.setCell, World.alloc, World.mk.injEq, and_true]
  apply Array.ext_getElem?
  intro k
  rw [Array.getElem?_modify]
  by_cases hk : w.heap.size = k
  · subst hk; simp
  · rw [if_neg hk]
    by_cases hl : k < w.heap.size
    · rw [Array.getElem?_push_lt hl, Array.getElem?_push_lt hl]
    · rw [Array.getElem?_eq_none (by simp; omega), Array.getElem?_eq_none (by simp; omega)]
theorem alloc_setCells (w : World) (t : TypeId) : ∀ (vs : List Value) (cs : Array Value) (o : Nat), ∃ cs' : Array Value, (w.alloc (.cells cs t)).setCells w.heap.size o vs = w.alloc (.cells cs' t) ∧ cs'.size = cs.size ∧ ∀ k, cs'[k]? = if o ≤ k ∧ k < o + vs.length ∧ k < cs.size then vs[k - o]? else cs[k]?
  | [], cs, o => ⟨cs, rfl, rfl, fun k => by rw [if_neg (by simp; omega)]⟩
  | v :: vs, cs, o => by
    obtain ⟨cs', h1, h2, h3⟩ := alloc_setCells w t vs (cs.setIfInBounds o v) (o + 1)
    refine ⟨cs', ?_, by simpa using h2, fun k => ?_⟩
    · rw [World.setCells, alloc_set]; exact h1
    · rw [h3 k]
      by_cases hk : o = k
      · subst hk
        rw [if_neg (by omega)]
        by_cases hs : o < cs.size
        · rw [if_pos ⟨by omega, by simp, hs⟩]; simp [hs]
        · rw [if_neg (by omega)]; simp [hs]
      · by_cases hr : o + 1 ≤ k ∧ k < o + 1 + vs.length ∧ k < cs.size
        · rw [if_pos (by simpa using hr), if_pos ⟨by omega, by simp; omega, hr.2.2⟩]
          have : k - o = (k - (o + 1)) + 1 := by omega
          rw [this, List.getElem?_cons_succ]
        · rw [if_neg (by simpa using hr), if_neg (by simp at hr ⊢; omega), Array.getElem?_setIfInBounds_ne hk]
theorem alloc_store (w : World) (t : TypeId) (vs : List Value) (cs : Array Value) (h : cs.size = vs.length) : (w.alloc (.cells cs t)).setCells w.heap.size 0 vs = w.alloc (.cells vs.toArray t) := by
  obtain ⟨cs', h1, h2, h3⟩ := alloc_setCells w t vs cs 0
  rw [h1]
  have : cs' = vs.toArray := by
    apply Array.ext_getElem?
    intro k
    have e : vs.toArray[k]? = vs[k]? := by simp
    rw [h3 k, e]
    by_cases hk : k < vs.length
    · rw [if_pos ⟨by omega, by omega, by omega⟩]; rfl
    · rw [if_neg (by omega), Array.getElem?_eq_none (by omega), List.getElem?_eq_none (by omega)]
  rw [this]
theorem wpList_store_new {P : Program} {ops : Array Oper} {rest : List Oper} {op : Oper} {a : Act} {w : World} {Q : Exit → Act → World → Prop} (hgd : op.guard = none) (ty : TypeId) (x y : Operand) (ho : op.op = .store ty x y)
    (zs : Array Value) (t : TypeId) (vs : List Value) (hx : a.eval x = .pointer (some ⟨w.heap.size, 0, none⟩)) (hy : a.eval y = .agg vs.toArray) (hz : zs.size = vs.length)
    (hi : (P.info? ty).map (·.size) = some vs.length) (h1 : ∀ v ∈ vs, v.oneCell' = true)
    (h : wpList P ops Q rest (a.put op.dst undef) (w.alloc (.cells vs.toArray t))) : wpList P ops Q (op :: rest) a (w.alloc (.cells zs t)) := by
  refine wpList_store_mid hgd ty x y ho w.heap.size 0 vs.toArray hx hy (fun j hj => ?_) (by simpa using hi) (all_oneCell_toArray h1) ?_
  · rw [cell_of_block (heap_alloc_last w _ rfl), frozen_of_block (heap_alloc_last w _ rfl)]
    simp at hj
    exact ⟨by rw [Nat.zero_add, Array.getElem?_eq_getElem (by omega)]; rfl, rfl⟩
  · rw [List.toList_toArray, alloc_store w t vs zs hz]; exact h
theorem results_mid2 {P : Program} {fn : Func} {p u : Tmp} {ty : TypeId} (h : fn.results = #[.cell p ty, .tmp u]) (tmps : Array Value) (w : World) (b o : Nat) (cs : List Value) (d : TypeDesc)
    (hp : tmps.getD p undef = .pointer (some ⟨b, o, none⟩)) (hc : w.rangeAt b o cs) (hu : P.underlying ty = some d) (hd : d.isRow = true) (hi : (P.info? ty).map (·.size) = some cs.length) :
    (results fn tmps).run P w = .ok (.tuple #[.agg cs.toArray, tmps.getD u undef]) w := by
  have hp' : tmps[p]?.getD undef = .pointer (some ⟨b, o, none⟩) := by simpa using hp
  rw [results_cell_tmp h]
  simp [hp', asAddr, run_loadVar_mid w b o ty cs d hc hu hd hi, Result.andThen]
theorem results_mid1 {P : Program} {fn : Func} {p : Tmp} {ty : TypeId} (h : fn.results = #[.cell p ty]) (tmps : Array Value) (w : World) (b o : Nat) (cs : List Value) (d : TypeDesc)
    (hp : tmps.getD p undef = .pointer (some ⟨b, o, none⟩)) (hc : w.rangeAt b o cs) (hu : P.underlying ty = some d) (hd : d.isRow = true) (hi : (P.info? ty).map (·.size) = some cs.length) :
    (results fn tmps).run P w = .ok (.agg cs.toArray) w := by
  have hp' : tmps[p]?.getD undef = .pointer (some ⟨b, o, none⟩) := by simpa using hp
  simp [results, h, hp', asAddr, run_loadVar_mid w b o ty cs d hc hu hd hi]
theorem range_of_block {w : World} {g : Nat} {cs : List Value} {t : TypeId} {fz : Nat × Nat} (h : w.heap[g]? = some (.cells cs.toArray t fz)) : w.rangeAt g 0 cs := fun j v hv => by
  rw [cell_of_block h, Nat.zero_add]; simpa using hv
theorem bits_xor_nat (a b : Nat) (ha : a < 4611686018427387904) (hb : b < 4611686018427387904) : bits .xor .i64 (a : Int) (b : Int) = ((a ^^^ b : Nat) : Int) := by
  have hx : a ^^^ b < 2 ^ 62 := Nat.xor_lt_two_pow (by omega) (by omega)
  have h1 : (BitVec.ofInt 64 (a : Int)).toNat = a := by rw [BitVec.ofInt_natCast, BitVec.toNat_ofNat]; exact Nat.mod_eq_of_lt (by omega)
  have h2 : (BitVec.ofInt 64 (b : Int)).toNat = b := by rw [BitVec.ofInt_natCast, BitVec.toNat_ofNat]; exact Nat.mod_eq_of_lt (by omega)
  show IntKind.i64.wrap ((BitVec.ofInt 64 (a : Int) ^^^ BitVec.ofInt 64 (b : Int)).toNat : Int) = _
  rw [BitVec.toNat_xor, h1, h2, IntKind.wrap_i64]
  omega
theorem bits_and_nat (a b : Nat) (ha : a < 4611686018427387904) (hb : b < 4611686018427387904) : bits .and .i64 (a : Int) (b : Int) = ((a &&& b : Nat) : Int) := by
  have hx : a &&& b < 2 ^ 62 := Nat.and_lt_two_pow _ (by omega)
  have h1 : (BitVec.ofInt 64 (a : Int)).toNat = a := by rw [BitVec.ofInt_natCast, BitVec.toNat_ofNat]; exact Nat.mod_eq_of_lt (by omega)
  have h2 : (BitVec.ofInt 64 (b : Int)).toNat = b := by rw [BitVec.ofInt_natCast, BitVec.toNat_ofNat]; exact Nat.mod_eq_of_lt (by omega)
  show IntKind.i64.wrap ((BitVec.ofInt 64 (a : Int) &&& BitVec.ofInt 64 (b : Int)).toNat : Int) = _
  rw [BitVec.toNat_and, h1, h2, IntKind.wrap_i64]
  omega
theorem bits_or_nat (a b : Nat) (ha : a < 4611686018427387904) (hb : b < 4611686018427387904) : bits .or .i64 (a : Int) (b : Int) = ((a ||| b : Nat) : Int) := by
  have hx : a ||| b < 2 ^ 62 := Nat.or_lt_two_pow (by omega) (by omega)
  have h1 : (BitVec.ofInt 64 (a : Int)).toNat = a := by rw [BitVec.ofInt_natCast, BitVec.toNat_ofNat]; exact Nat.mod_eq_of_lt (by omega)
  have h2 : (BitVec.ofInt 64 (b : Int)).toNat = b := by rw [BitVec.ofInt_natCast, BitVec.toNat_ofNat]; exact Nat.mod_eq_of_lt (by omega)
  show IntKind.i64.wrap ((BitVec.ofInt 64 (a : Int) ||| BitVec.ofInt 64 (b : Int)).toNat : Int) = _
  rw [BitVec.toNat_or, h1, h2, IntKind.wrap_i64]
  omega
def nibT : List Nat := [0, 274646895, 549293790, 820201905, 1098587580, 1361435347, 1640403810, 1905808397, 2197175160, 2460548119, 2722870694, 2987750089, 3280807620, 3553878443, 3811616794, 4084100981]
def nibC (i : Nat) : Nat := nibT.getD i 0
theorem nibC_lt (i : Nat) : nibC i < 4294967296 := by
  unfold nibC nibT
  by_cases h : i < 16
  · have : i = 0 ∨ i = 1 ∨ i = 2 ∨ i = 3 ∨ i = 4 ∨ i = 5 ∨ i = 6 ∨ i = 7 ∨ i = 8 ∨ i = 9 ∨ i = 10 ∨ i = 11 ∨ i = 12 ∨ i = 13 ∨ i = 14 ∨ i = 15 := by omega
    rcases this with rfl | rfl | rfl | rfl | rfl | rfl | rfl | rfl | rfl | rfl | rfl | rfl | rfl | rfl | rfl | rfl <;> decide
  · rw [List.getD_eq_getElem?_getD, List.getElem?_eq_none (by simp; omega)]; decide
def stepC (s f : Nat) : Nat := (s / 16) ^^^ nibC ((s ^^^ f) &&& 15)
theorem stepC_lt {s f : Nat} (h : s < 4294967296) : stepC s f < 4294967296 := by
  unfold stepC
  exact Nat.xor_lt_two_pow (n := 32) (by omega) (nibC_lt _)
def byteC (s : Nat) (b : UInt8) : Nat := stepC (stepC s (b.toNat &&& 15)) (b.toNat / 16)
theorem byteC_lt {s : Nat} {b : UInt8} (h : s < 4294967296) : byteC s b < 4294967296 := stepC_lt (stepC_lt h)
def sumC (xs : List UInt8) : Nat := xs.foldl byteC 4294967295
theorem sumC_snoc (xs : List UInt8) (b : UInt8) : sumC (xs ++ [b]) = byteC (sumC xs) b := by simp [sumC]
theorem sumC_lt (xs : List UInt8) : sumC xs < 4294967296 := by
  have : ∀ (xs : List UInt8) (s : Nat), s < 4294967296 → xs.foldl byteC s < 4294967296 := by
    intro xs
    induction xs with
    | nil => intro s h; exact h
    | cons b xs ih => intro s h; exact ih _ (byteC_lt h)
  exact this xs _ (by omega)
def crcC (xs : List UInt8) : Nat := sumC xs ^^^ 4294967295
theorem crcC_lt (xs : List UInt8) : crcC xs < 4294967296 := Nat.xor_lt_two_pow (n := 32) (sumC_lt xs) (by decide)
def lowB (n : Nat) : Nat → List UInt8
  | 0 => []
  | k + 1 => UInt8.ofNat n :: lowB (n / 256) k
theorem lowB_len (n k : Nat) : (lowB n k).length = k := by
  induction k generalizing n with
  | zero => rfl
  | succ k ih => simp [lowB, ih]
def numB : List UInt8 → Nat
  | [] => 0
  | b :: l => b.toNat + 256 * numB l
theorem numB_low (n k : Nat) (h : n < 256 ^ k) : numB (lowB n k) = n := by
  induction k generalizing n with
  | zero => simp at h; subst h; rfl
  | succ k ih =>
    simp only [lowB, numB]
    rw [ih (n / 256) (by rw [Nat.div_lt_iff_lt_mul (by omega)]; rw [Nat.pow_succ] at h; exact h)]
    have : (UInt8.ofNat n).toNat = n % 256 := by simp
    rw [this]; omega
def sealB (b : Bk) : Bk := b.take 60 ++ lowB (crcC (b.take 60)) 4
theorem sealB_len {b : Bk} (h : b.length = 64) : (sealB b).length = 64 := by simp [sealB, lowB_len, h]
theorem sealB_take {b : Bk} (h : b.length = 64) : (sealB b).take 60 = b.take 60 := by
  exact List.take_left' (by simp [h])
theorem sealB_seal {b : Bk} (h : b.length = 64) : sealB (sealB b) = sealB b := by
  show (sealB b).take 60 ++ _ = _
  rw [sealB_take h]
  rfl
def opC (O : List (Nat × Bk)) : List Value := O.flatMap fun p => .int .i64 (p.1 : Int) :: bkC p.2
structure DvGood (F : List Bk) (O : List (Nat × Bk)) (P : List Int) : Prop where
  f64 : All64 F
  o64 : ∀ p ∈ O, p.2.length = 64 ∧ p.1 < F.length
  f1 : 1 ≤ F.length
  fl : F.length ≤ 4096
  ol : O.length ≤ 65536
  pl : P.length ≤ 65536
structure DvAt (w : World) (b : Nat) (vf vo vp : Value) (F : List Bk) (O : List (Nat × Bk)) (P : List Int) : Prop where
  str : w.heap[b]? = some (.cells #[vf, vo, vp] 123 (0, 0))
  fs : Sl w 54 64 vf F.length (rowC F)
  os : Sl w 131 65 vo O.length (opC O)
  ps : Sl w 3 1 vp P.length (ints P)
  good : DvGood F O P
  fb : vf.ownBlock ≠ some b
  ob : vo.ownBlock ≠ some b
  pb : vp.ownBlock ≠ some b
  fo : Dis vf vo
  fp : Dis vf vp
  op : Dis vo vp
def dvS (b : Nat) (vf vo vp : Value) : Nat → Prop := fun j => j = b ∨ vf.ownBlock = some j ∨ vo.ownBlock = some j ∨ vp.ownBlock = some j
section
variable {w w' w2 : World} {b : Nat} {vf vo vp v2 : Value} {F F' : List Bk} {O O' : List (Nat × Bk)} {P P' : List Int}
theorem DvAt.keep (h : DvAt w b vf vo vp F O P) {S : Nat → Prop} (hu : Upd S w w') (hs : ∀ j, dvS b vf vo vp j → ¬ S j) : DvAt w' b vf vo vp F O P :=
  { h with
    str := (hu.block _ (lt_of_block h.str) (hs b (.inl rfl))).trans h.str
    fs := h.fs.keep hu (fun g hg => hs g (.inr (.inl hg)))
    os := h.os.keep hu (fun g hg => hs g (.inr (.inr (.inl hg))))
    ps := h.ps.keep hu (fun g hg => hs g (.inr (.inr (.inr hg)))) }
theorem DvAt.new (h : DvAt w b vf vo vp F O P) (hu : Upd (fun _ => False) w w') : DvAt w' b vf vo vp F O P := h.keep hu (fun _ _ h => h)
theorem DvAt.blt (h : DvAt w b vf vo vp F O P) : b < w.heap.size := lt_of_block h.str
theorem DvAt.slt (h : DvAt w b vf vo vp F O P) : ∀ j, dvS b vf vo vp j → j < w.heap.size := by
  rintro j (rfl | hj | hj | hj)
  · exact h.blt
  · exact h.fs.lt hj
  · exact h.os.lt hj
  · exact h.ps.lt hj
theorem DvAt.c (h : DvAt w b vf vo vp F O P) : w.cell? ⟨b, 0, none⟩ = some vf ∧ w.cell? ⟨b, 1, none⟩ = some vo ∧ w.cell? ⟨b, 2, none⟩ = some vp := by
  refine ⟨?_, ?_, ?_⟩ <;> rw [cell_of_block h.str] <;> rfl
theorem DvAt.fz (h : DvAt w b vf vo vp F O P) (i : Nat) : w.frozen? ⟨b, i, none⟩ = false := frozen_of_block h.str i
end
def Dv (S : Nat → Prop) (w : World) (b : Nat) (F : List Bk) (O : List (Nat × Bk)) (P : List Int) : Prop :=
  ∃ vf vo vp, DvAt w b vf vo vp F O P ∧ ∀ j, dvS b vf vo vp j → S j
section
variable {S : Nat → Prop} {w w' : World} {b : Nat} {F : List Bk} {O : List (Nat × Bk)} {P : List Int}
theorem Dv.keep (h : Dv S w b F O P) {T : Nat → Prop} (hu : Upd T w w') (hs : ∀ j, S j → ¬ T j) : Dv S w' b F O P := by
  obtain ⟨vf, vo, vp, h, hS⟩ := h
  exact ⟨vf, vo, vp, h.keep hu (fun j hj => hs j (hS j hj)), hS⟩
theorem Dv.new (h : Dv S w b F O P) (hu : Upd (fun _ => False) w w') : Dv S w' b F O P := h.keep hu (fun _ _ h => h)
theorem Dv.out (h : Dv S w b F O P) {S' : Nat → Prop} (hs : ∀ j, j < w.heap.size → S j → S' j) : Dv S' w b F O P := by
  obtain ⟨vf, vo, vp, h, hS⟩ := h
  exact ⟨vf, vo, vp, h, fun j hj => hs j (h.slt j hj) (hS j hj)⟩
theorem Dv.good (h : Dv S w b F O P) : DvGood F O P := by obtain ⟨vf, vo, vp, h, -⟩ := h; exact h.good
end
def hasC (n : Nat) (s : Int) : Int := if s < 0 ∨ (n : Int) ≤ s then 10 else 0
theorem dsize {S : Nat → Prop} {w : World} {b : Nat} {F : List Bk} {O : List (Nat × Bk)} {P : List Int} (h : Dv S w b F O P) :
    Calls Tryz.prog 47 #[.pointer (some ⟨b, 0, none⟩)] w fun e w' => e = .returned (.int .i64 F.length) ∧ w' = w := by
  obtain ⟨vf, vo, vp, h, -⟩ := h
  obtain ⟨g0, -, -⟩ := h.c
  obtain ⟨ao, c, rfl⟩ := h.fs.rd.nil_iff
  clear h
  go_enter Tryz.func47, Tryz.ntmps47
  go_wp2
  go_ret
  exact ⟨rfl, rfl⟩
theorem dopen {S : Nat → Prop} {w : World} {b : Nat} {F : List Bk} {O : List (Nat × Bk)} {P : List Int} (h : Dv S w b F O P) :
    Calls Tryz.prog 20 #[.pointer (some ⟨b, 0, none⟩)] w fun e w' => e = .returned (.int .i64 O.length) ∧ w' = w := by
  obtain ⟨vf, vo, vp, h, -⟩ := h
  obtain ⟨-, g1, -⟩ := h.c
  obtain ⟨ao, c, rfl⟩ := h.os.rd.nil_iff
  clear h
  go_enter Tryz.func20, Tryz.ntmps20
  go_wp2
  go_ret
  exact ⟨rfl, rfl⟩
theorem dhas {S : Nat → Prop} {w : World} {b : Nat} {F : List Bk} {O : List (Nat × Bk)} {P : List Int} (h : Dv S w b F O P) (s : Int) :
    Calls Tryz.prog 62 #[.pointer (some ⟨b, 0, none⟩), .int .i64 s] w fun e w' => e = .returned (.int .i64 (hasC F.length s)) ∧ w' = w := by
  obtain ⟨vf, vo, vp, h, -⟩ := h
  obtain ⟨g0, -, -⟩ := h.c
  have hl := h.good.fl
  obtain ⟨ao, c, rfl⟩ := h.fs.rd.nil_iff
  clear h
  by_cases h1 : s < 0
  · have e1 : hasC F.length s = 10 := if_pos (.inl h1)
    rw [e1]
    clear e1
    go_enter Tryz.func62, Tryz.ntmps62
    go_wp2
    go_ret
    exact ⟨rfl, rfl⟩
  · by_cases h2 : (F.length : Int) ≤ s
    · have e1 : hasC F.length s = 10 := if_pos (.inr h2)
      rw [e1]
      clear e1
      go_enter Tryz.func62, Tryz.ntmps62
      go_wp2
      go_ret
      exact ⟨rfl, rfl⟩
    · have e1 : hasC F.length s = 0 := if_neg (fun h => h.elim h1 h2)
      rw [e1]
      clear e1
      go_enter Tryz.func62, Tryz.ntmps62
      go_wp2
      go_ret
      exact ⟨rfl, rfl⟩
/-! ### a new device -/
def zB : Bk := List.replicate 64 0
theorem zB_len : zB.length = 64 := by simp [zB]
theorem infoBk : (Tryz.prog.info? 54).map (fun i => (i.zero, i.size, i.bytes)) = some (some (bkV zB), 64, 64) := by kernel_rfl
theorem rowC_rep (n : Nat) (x : Bk) (hx : x.length = 64) (j : Nat) (hj : j < n * 64) : (rowC (List.replicate n x))[j]? = (bkC x)[j % 64]? := by
  have h64 : All64 (List.replicate n x) := fun y hy => by rw [(List.mem_replicate.1 hy).2]; exact hx
  have hd : j / 64 < (List.replicate n x).length := by rw [List.length_replicate]; omega
  have := rowC_at h64 hd (j := j % 64) (Nat.mod_lt _ (by omega))
  rw [show j / 64 * 64 + j % 64 = j by omega] at this
  rw [this]
  simp
set_option maxRecDepth 100000 in
theorem dnew_ok (n : Nat) (h1 : 1 ≤ n) (h2 : n ≤ 4096) (w : World) :
    Calls Tryz.prog 15 #[.int .i64 n] w fun e w' => ∃ b, e = .returned (.tuple #[.pointer (some ⟨b, 0, none⟩), .int .i64 0]) ∧
      Dv (fun j => w.heap.size ≤ j) w' b (List.replicate n zB) [] [] ∧ w.heap.size ≤ b ∧ Below w.heap.size w w' := by
  obtain ⟨i, hi, hz0, hz1, hz2⟩ := info_parts infoBk
  have hmk := run_make (P := Tryz.prog) w 41 54 i (bkV zB) Tryz.underlying41 hi hz0 .i64 .i64 n n (by omega) (Int.le_refl _) (by rw [hz2]; omega) (by omega)
  rw [Int.toNat_natCast, hz1] at hmk
  have q1 : ¬ ((n : Int) < 1) := by omega
  have q2 : ¬ ((4096 : Int) < n) := by omega
  obtain ⟨C, hC⟩ : ∃ C : Array Value, C = madeCells (bkV zB).cells (n * 64) := ⟨_, rfl⟩
  rw [← hC] at hmk
  have HC : Hid (C.size = n * 64 ∧ ∀ (j : Nat) (u : Value), (rowC (List.replicate n zB))[j]? = some u → C[j]? = some u) := by
    refine ⟨by rw [hC, size_madeCells], fun j u hj => ?_⟩
    have h64 : All64 (List.replicate n zB) := fun y hy => by rw [(List.mem_replicate.1 hy).2]; exact zB_len
    have hj' := (List.getElem?_eq_some_iff.1 hj).1
    rw [rowC_len h64, List.length_replicate] at hj'
    rw [rowC_rep n zB zB_len j hj'] at hj
    have hcs : (bkV zB).cells = (bkC zB).toArray := rfl
    have hsz : (bkC zB).length = 64 := by rw [bkC_len, zB_len]
    rw [hC]
    simp only [madeCells, Array.getElem?_map, Array.getElem?_range, hj', if_true, Option.map_some, hcs, List.size_toArray, hsz]
    rw [getElem!_def]
    simp only [List.getElem?_toArray, hj]
  clear hC hz0 hz1 hz2 hi
  go_enter Tryz.func15, Tryz.ntmps15
  go_wp2
  go_ret2
  have hz : (w.alloc (.cells C 54)).heap.size = w.heap.size + 1 := by simp
  have h64 : All64 (List.replicate n zB) := fun y hy => by rw [(List.mem_replicate.1 hy).2]; exact zB_len
  have hln : (List.replicate n zB).length = n := List.length_replicate
  refine ⟨w.heap.size + 1, rfl, ⟨.slice (some ⟨w.heap.size, 0, none⟩) n n, .slice none 0 0, .slice none 0 0, ⟨heap_alloc_last _ _ hz.symm, ?_, Sl.nil _ _ _, Sl.nil _ _ _, ⟨h64, by simp, by omega, by omega, by simp, by simp⟩, by simp [Value.ownBlock], by simp [Value.ownBlock], by simp [Value.ownBlock], (Dis.nil _ _ _).symm, (Dis.nil _ _ _).symm, Dis.nil _ _ _⟩, ?_⟩, by omega, (((Below.refl _ w).alloc (Nat.le_refl _) _).alloc (by simp) _)⟩
  · rw [hln]
    refine Sl.keep (w := w.alloc (.cells C 54)) ⟨by rw [rowC_len h64, hln], .inr ⟨w.heap.size, 0, n, C, rfl, heap_alloc_last w _ rfl, Nat.le_refl _, by unfold maxLen; omega, by rw [HC.out.1]; omega, fun j u hj => by rw [Nat.zero_add]; exact HC.out.2 j u hj⟩⟩ (Upd.alloc (Upd.refl (fun _ => False) _) _) (fun _ _ h => h)
  · rintro j (rfl | hj | hj | hj)
    · omega
    · simp [Value.ownBlock] at hj; omega
    · cases hj
    · cases hj
/-! ### a row is laid anew -/
section
variable {w w' w2 : World} {b : Nat} {vf vo vp v2 : Value} {F F' : List Bk} {O O' : List (Nat × Bk)} {P P' : List Int}
theorem from_ne {w : World} {v v' : Value} {x : Nat} (h : blockFrom w v v') (hv : v.ownBlock ≠ some x) (hx : x < w.heap.size) : v'.ownBlock ≠ some x := by
  intro e
  rcases h with h | ⟨g, h, hg⟩
  · exact hv (by rw [← h, e])
  · rw [h] at e; cases e; omega
theorem DvAt.setPlan (h : DvAt w b vf vo vp F O P) (hu : Upd (ownS vp) w w2) (h2 : Sl w2 3 1 v2 P'.length (ints P')) (hbf : blockFrom w vp v2) (hg : DvGood F O P') : DvAt (w2.setCell ⟨b, 2, none⟩ v2) b vf vo v2 F O P' :=
  have hne := from_ne hbf h.pb h.blt
  have hstr : w2.heap[b]? = _ := (hu.block b h.blt (fun e => h.pb e)).trans h.str
  { str := heap_setCell_same hstr 2 v2
    fs := (h.fs.keep_dis h.fp hu).keep_ne (upd_setCell _ _ _ _) h.fb
    os := (h.os.keep_dis h.op hu).keep_ne (upd_setCell _ _ _ _) h.ob
    ps := h2.keep_ne (upd_setCell _ _ _ _) hne
    good := hg
    fb := h.fb
    ob := h.ob
    pb := hne
    fo := h.fo
    fp := (h.fp.symm.from hbf (fun _g hg => h.fs.lt hg)).symm
    op := (h.op.symm.from hbf (fun _g hg => h.os.lt hg)).symm }
theorem DvAt.setOpen (h : DvAt w b vf vo vp F O P) (hu : Upd (ownS vo) w w2) (h2 : Sl w2 131 65 v2 O'.length (opC O')) (hbf : blockFrom w vo v2) (hg : DvGood F O' P) : DvAt (w2.setCell ⟨b, 1, none⟩ v2) b vf v2 vp F O' P :=
  have hne := from_ne hbf h.ob h.blt
  have hstr : w2.heap[b]? = _ := (hu.block b h.blt (fun e => h.ob e)).trans h.str
  { str := heap_setCell_same hstr 1 v2
    fs := (h.fs.keep_dis h.fo hu).keep_ne (upd_setCell _ _ _ _) h.fb
    os := h2.keep_ne (upd_setCell _ _ _ _) hne
    ps := (h.ps.keep_dis h.op.symm hu).keep_ne (upd_setCell _ _ _ _) h.pb
    good := hg
    fb := h.fb
    ob := hne
    pb := h.pb
    fo := (h.fo.symm.from hbf (fun _g hg => h.fs.lt hg)).symm
    fp := h.fp
    op := h.op.from hbf (fun _g hg => h.ps.lt hg) }
end
theorem DvGood.tail {F : List Bk} {O : List (Nat × Bk)} {P : List Int} (h : DvGood F O P) : DvGood F O P.tail := { h with pl := by rw [List.length_tail]; have := h.pl; omega }
/-! ### the fate of a call -/
def fate (P : List Int) : Int := P.headD 0
set_option maxRecDepth 100000 in
theorem dtake {S : Nat → Prop} {w : World} {b g : Nat} {F : List Bk} {O : List (Nat × Bk)} {P : List Int} (h : Dv S w b F O P) (hg : w.cell? ⟨g, 0, none⟩ = some (.pointer (some ⟨b, 0, none⟩))) :
    Calls Tryz.prog 121 #[.pointer (some ⟨g, 0, none⟩)] w fun e w' => e = .returned (.int .i64 (fate P)) ∧ Dv S w' b F O P.tail ∧ Upd (fun j => j = b) w w' := by
  obtain ⟨vf, vo, vp, h, hS⟩ := h
  have H := Lib.hid (And.intro h hS)
  obtain ⟨-, -, g2⟩ := h.c
  have f2 := h.fz 2
  cases P with
  | nil =>
    obtain ⟨ao, c, rfl⟩ := h.ps.rd.nil_iff
    clear h hS
    go_enter Tryz.func121, Tryz.ntmps121
    go_wp2
    go_ret
    exact ⟨rfl, ⟨vf, vo, _, H.out.1, H.out.2⟩, Upd.refl _ _⟩
  | cons p P =>
    obtain ⟨gp, op, cp, cur, rfl, hgp, hzp, hcp⟩ := h.ps.at (by simp)
    have x0 := (cell_of_block hgp op).trans (hcp 0 (.int .i64 p) rfl)
    have hpl := h.good.pl
    have ht := Sl.tail (h.ps : Sl w 3 1 (.slice (some ⟨gp, op, none⟩) (P.length + 1) cp) (P.length + 1) (.int .i64 p :: ints P))
    have HT := Lib.hid ht
    have hgd : Hid (DvGood F O P) := h.good.tail
    clear h hS hcp hzp ht
    by_cases hc1 : cp = 1
    · have hDv : Hid (Dv S (w.setCell ⟨b, 2, none⟩ (.slice (some ⟨gp, op, none⟩) P.length 0)).drew b F O P) :=
        Dv.new ⟨vf, vo, _, H.out.1.setPlan (Upd.refl _ _) (HT.out.2.1 hc1) (.inl rfl) hgd.out, H.out.2⟩ ((Upd.refl _ _).drew)
      have hU : Hid (Upd (fun j => j = b) w (w.setCell ⟨b, 2, none⟩ (.slice (some ⟨gp, op, none⟩) P.length 0)).drew) := (upd_setCell _ _ _ _).drew
      subst hc1
      go_enter Tryz.func121, Tryz.ntmps121
      go_wp2
      go_region
      go_wp2
      go_ret
      exact ⟨rfl, hDv.out, hU.out⟩
    · have hDv : Hid (Dv S (w.setCell ⟨b, 2, none⟩ (.slice (some ⟨gp, op + 1, none⟩) P.length (cp - 1))).drew b F O P) :=
        Dv.new ⟨vf, vo, _, H.out.1.setPlan (Upd.refl _ _) HT.out.1 (.inl rfl) hgd.out, H.out.2⟩ ((Upd.refl _ _).drew)
      have hU : Hid (Upd (fun j => j = b) w (w.setCell ⟨b, 2, none⟩ (.slice (some ⟨gp, op + 1, none⟩) P.length (cp - 1))).drew) := (upd_setCell _ _ _ _).drew
      go_enter Tryz.func121, Tryz.ntmps121
      go_wp2
      go_region
      go_wp2
      go_ret
      exact ⟨rfl, hDv.out, hU.out⟩
def CallPost (S : Nat → Prop) (w : World) (b : Nat) (F : List Bk) (O : List (Nat × Bk)) (P : List Int) (failed : Int) (Q : World → Prop) (e : Ending) (w' : World) : Prop :=
  (fate P = 1 ∧ e = .returned (.int .i64 failed) ∧ Dv S w' b F O P.tail ∧ Upd (fun j => j = b) w w') ∨ (fate P = 0 ∧ e = .returned (.int .i64 0) ∧ Q w') ∨
    (fate P ≠ 0 ∧ fate P ≠ 1 ∧ e = .returned (.int .i64 0) ∧ Dv S w' b F O P.tail ∧ Upd (fun j => j = b) w w')
set_option maxRecDepth 100000 in
theorem dcall {S : Nat → Prop} {w : World} {b : Nat} {F : List Bk} {O : List (Nat × Bk)} {P : List Int} (h : Dv S w b F O P) (failed : Int) (fd : Nat) (caps : Array Value) (Q : World → Prop)
    (hent : ∀ args w, (callFunc fd args).run Tryz.prog w = .ok (.enter fd args) w)
    (hdo : fate P = 0 → ∀ w1, Dv S w1 b F O P.tail → Upd (fun j => j = b) w w1 → Calls Tryz.prog fd caps w1 fun e w' => e = .returned (.tuple #[]) ∧ Q w') :
    Calls Tryz.prog 63 #[.pointer (some ⟨b, 0, none⟩), .int .i64 failed, .func (.func fd) #[] caps] w (CallPost S w b F O P failed Q) := by
  have hmf : ∀ (fn : Fn) (first cap : Array Value) (w : World), (Instr.makeFunc fn first cap).run Tryz.prog w = .ok (.func fn first cap) w := fun _ _ _ _ => rfl
  have hua : Upd (fun _ => False) w (w.alloc (.cells #[.pointer (some ⟨b, 0, none⟩)] 46)) := (Upd.refl _ _).alloc _
  have H1 := Lib.hid (h.new hua)
  have HG : Hid ((w.alloc (.cells #[.pointer (some ⟨b, 0, none⟩)] 46)).cell? ⟨w.heap.size, 0, none⟩ = some (.pointer (some ⟨b, 0, none⟩))) := cell_of_block (heap_alloc_last w _ rfl) 0
  have HD := Lib.hid hdo
  have HU := Lib.hid hua
  clear h hdo hua
  go_enter Tryz.func63, Tryz.ntmps63
  go_wp2_with fail
  refine (dtake H1.out HG.out).mono ?_
  rintro e w1 ⟨rfl, hd1, hu1⟩
  have D1 := Lib.hid (And.intro hd1 ((HU.out.mono (fun _ _ h => h.elim)).trans hu1))
  clear hd1 hu1
  by_cases h1 : fate P = 1
  · have H1 := Lib.hid h1
    rw [h1]
    clear h1
    go_wp2
    go_ret
    exact .inl ⟨H1.out, rfl, D1.out.1, D1.out.2⟩
  · by_cases h0 : fate P = 0
    · have H0 := Lib.hid h0
      rw [h0]
      clear h0 h1
      go_wp2_with fail
      refine (HD.out H0.out w1 D1.out.1 D1.out.2).mono ?_
      rintro e w2 ⟨rfl, hq⟩
      have HQ := Lib.hid hq
      clear hq
      go_wp2
      go_ret
      exact .inr (.inl ⟨H0.out, rfl, HQ.out⟩)
    · have q1 : (fate P == 1) = false := by simpa using h1
      have q0 : (fate P == 0) = false := by simpa using h0
      have H0 := Lib.hid (And.intro h0 h1)
      clear h0 h1
      go_wp2
      go_ret
      exact .inr (.inr ⟨H0.out.1, H0.out.2, rfl, D1.out.1, D1.out.2⟩)
abbrev wrC (s : Int) (x : Bk) : List Value := .int .i64 s :: bkC x
theorem wrC_len (s : Int) (x : Bk) : (wrC s x).length = x.length + 1 := by simp [wrC, bkC_len]
theorem wrC_one (s : Int) (x : Bk) : ∀ v ∈ wrC s x, v.oneCell' = true := by
  intro v hv
  rcases List.mem_cons.1 hv with rfl | h
  · rfl
  · exact bkC_one x v h
theorem fold_cells (off : Nat) (cs z : Array Value) : (Array.foldl (fun (cs : Array Value) (x : Value × Nat) => cs.setIfInBounds (off + x.2) x.1) z cs.zipIdx).size = z.size ∧
    ∀ k, (Array.foldl (fun (cs : Array Value) (x : Value × Nat) => cs.setIfInBounds (off + x.2) x.1) z cs.zipIdx)[k]? = if off ≤ k ∧ k < off + cs.size ∧ k < z.size then cs[k - off]? else z[k]? := by
  rw [← Array.foldl_toList, Array.toList_zipIdx]
  obtain ⟨h1, h2⟩ := Go.Great.foldl_set off cs.toList 0 z
  exact ⟨h1, fun k => by rw [h2 k]; simp⟩
theorem fill_step (pl : Nat → Option (Nat × Nat)) (z : Array Value) (i off size : Nat) (v : Value) (rest : List (Nat × Value)) (hp : pl i = some (off, size)) (hv : v.cells.size = size) (hz : off + size ≤ z.size) :
    Instr.fill pl z ((i, v) :: rest) = Instr.fill pl (Array.foldl (fun (cs : Array Value) (x : Value × Nat) => cs.setIfInBounds (off + x.2) x.1) z v.cells.zipIdx) rest := by
  show (match pl i with | none => none | some (off, size) => _) = _
  rw [hp]
  show (if (decide (v.cells.size ≠ size) || decide (off + v.cells.size > z.size)) = true then none else _) = _
  rw [if_neg (by simp [hv]; omega)]
theorem fill_two (p q : Value) (hp : p.cells.size = 1) (hq : q.cells.size = 64) (z : Array Value) (hz : z.size = 65) (pl : Nat → Option (Nat × Nat)) (h0 : pl 0 = some (0, 1)) (h1 : pl 1 = some (1, 64)) :
    Instr.fill pl z [(0, p), (1, q)] = some (p.cells.toList ++ q.cells.toList).toArray := by
  obtain ⟨a1, a2⟩ := fold_cells 0 p.cells z
  obtain ⟨b1, b2⟩ := fold_cells 1 q.cells (Array.foldl (fun (cs : Array Value) (x : Value × Nat) => cs.setIfInBounds (0 + x.2) x.1) z p.cells.zipIdx)
  rw [fill_step pl z 0 0 1 p _ h0 hp (by omega), fill_step pl _ 1 1 64 q _ h1 hq (by rw [a1]; omega)]
  show some _ = _
  congr 1
  apply Array.ext_getElem?
  intro k
  rw [b2 k, a1, hz, hq]
  by_cases hk : k < 65
  · by_cases hk0 : k = 0
    · subst hk0
      rw [if_neg (by omega), a2 0, if_pos ⟨by omega, by omega, by omega⟩]
      rw [show ((p.cells.toList ++ q.cells.toList).toArray)[0]? = (p.cells.toList ++ q.cells.toList)[0]? by rw [List.getElem?_toArray], List.getElem?_append_left (by simp; omega)]
      simp
    · rw [if_pos ⟨by omega, by omega, hk⟩, show ((p.cells.toList ++ q.cells.toList).toArray)[k]? = (p.cells.toList ++ q.cells.toList)[k]? by rw [List.getElem?_toArray], List.getElem?_append_right (by simp; omega)]
      simp [hp]
  · rw [if_neg (by omega), a2 k, if_neg (by omega), Array.getElem?_eq_none (by omega), Array.getElem?_eq_none (by simp; omega)]
theorem infoWr : (Tryz.prog.info? 131).map (fun i => (i.zero.map (·.cells.size), i.size, i.bytes)) = some (some 65, 65, 72) := by kernel_rfl
theorem placesWr : (match Tryz.prog.underlying 131 with | some (.struct fs) => fs.toList.mapM (fun f => (Tryz.prog.info? f.type).map fun i => (f.offset, i.size)) | _ => none) = some [(0, 1), (1, 64)] := by kernel_rfl
theorem infoWr_parts : ∃ i z, Tryz.prog.info? 131 = some i ∧ i.zero = some z ∧ z.cells.size = 65 ∧ i.size = 65 ∧ i.bytes = 72 := by
  obtain ⟨i, hi, h⟩ := Option.map_eq_some_iff.1 infoWr
  simp only [Prod.mk.injEq] at h
  obtain ⟨h1, h2, h3⟩ := h
  obtain ⟨z, hz, hs⟩ := Option.map_eq_some_iff.1 h1
  exact ⟨i, z, hi, hz, hs, h2, h3⟩
set_option maxRecDepth 100000 in
theorem run_build_wr (p q : Value) (hp : p.cells.size = 1) (hq : q.cells.size = 64) (w : World) : (Instr.build 131 #[(0, p), (1, q)]).run Tryz.prog w = .ok (.agg (p.cells.toList ++ q.cells.toList).toArray) w := by
  refine run_build w _ _ _ ?_
  obtain ⟨i, z, hi, hz, hs, _, _⟩ := infoWr_parts
  have hpl := placesWr
  have hu := Tryz.underlying131
  unfold Program.built
  rw [hu] at hpl
  rw [hi, hu]
  simp only [hz]
  simp only at hpl
  rw [hpl]
  exact fill_two p q hp hq z.cells hs _ rfl rfl
set_option maxRecDepth 100000 in
theorem run_row_wr (v : Value) (hv : v.cells.size = 65) (w : World) : (Instr.buildSlice 121 1 #[(0, v)]).run Tryz.prog w = .ok (.slice (some ⟨w.heap.size, 0, none⟩) 1 1) (w.alloc (.cells v.cells 131)) := by
  obtain ⟨i, z, hi, hz, hs, hsz, _⟩ := infoWr_parts
  refine run_buildSlice w _ _ 1 _ _ i z Tryz.underlying121 hi hz (by rw [hsz]; decide) (by rw [hsz]; decide) ?_
  obtain ⟨a1, a2⟩ := fold_cells 0 v.cells ((Array.range (1 * i.size)).map (z.cells[· % z.cells.size]!))
  rw [show (#[(0, v)] : Array (Nat × Value)).toList = [(0, v)] from rfl]
  rw [fill_step _ _ 0 0 65 v _ (by simp [hsz]) hv (by simp [hsz])]
  show some _ = _
  congr 1
  apply Array.ext_getElem?
  intro k
  rw [a2 k]
  by_cases hk : k < 65
  · rw [if_pos ⟨by omega, by omega, by simp [hsz]; omega⟩]; rfl
  · rw [if_neg (by omega), Array.getElem?_eq_none (by simp [hsz]; omega), Array.getElem?_eq_none (by omega)]
theorem wp_build_wr (dst : Option Tmp) (ty : TypeId) (pos : String) (after : Array Edge) (p q : Operand) (a : Act) (w : World) (K : Act → World → Prop) (Q : Exit → Act → World → Prop) (hp : (a.eval p).cells.size = 1) (hq : (a.eval q).cells.size = 64) :
    Oper.wp Tryz.prog { dst := dst, op := .build 131 #[(0, p), (1, q)], type := ty, pos := pos, after := after, guard := none } a w K Q = K (a.put dst (.agg ((a.eval p).cells.toList ++ (a.eval q).cells.toList).toArray)) w := by
  unfold Oper.wp execOp
  have := run_build_wr (a.eval p) (a.eval q) hp hq w
  simp only [List.map_toArray, List.map_cons, List.map_nil, Sem.run_bind, this, Result.andThen_ok]
  rfl
theorem wp_row_wr (dst : Option Tmp) (ty : TypeId) (pos : String) (after : Array Edge) (p : Operand) (a : Act) (w : World) (K : Act → World → Prop) (Q : Exit → Act → World → Prop) (hp : (a.eval p).cells.size = 65) :
    Oper.wp Tryz.prog { dst := dst, op := .buildSlice 121 1 #[(0, p)], type := ty, pos := pos, after := after, guard := none } a w K Q = K (a.put dst (.slice (some ⟨w.heap.size, 0, none⟩) 1 1)) (w.alloc (.cells (a.eval p).cells 131)) := by
  unfold Oper.wp execOp
  have := run_row_wr (a.eval p) hp w
  simp only [List.map_toArray, List.map_cons, List.map_nil, Sem.run_bind, this, Result.andThen_ok]
  rfl
set_option maxRecDepth 100000 in
theorem run_build_map (a : Act) (p q : Operand) (w : World) (hp : (a.eval p).cells.size = 1) (hq : (a.eval q).cells.size = 64) :
    (Instr.build 131 ((#[(0, p), (1, q)] : Array (Nat × Operand)).map fun (i, x) => (i, a.eval x))).run Tryz.prog w = .ok (.agg ((a.eval p).cells.toList ++ (a.eval q).cells.toList).toArray) w := by
  have := run_build_wr (a.eval p) (a.eval q) hp hq w
  simp only [List.map_toArray, List.map_cons, List.map_nil]
  exact this
set_option maxRecDepth 100000 in
theorem run_row_map (a : Act) (p : Operand) (w : World) (hp : (a.eval p).cells.size = 65) :
    (Instr.buildSlice 121 1 ((#[(0, p)] : Array (Nat × Operand)).map fun (i, x) => (i, a.eval x))).run Tryz.prog w = .ok (.slice (some ⟨w.heap.size, 0, none⟩) 1 1) (w.alloc (.cells (a.eval p).cells 131)) := by
  have := run_row_wr (a.eval p) hp w
  simp only [List.map_toArray, List.map_cons, List.map_nil]
  exact this
theorem zero_wr : Tryz.zeroCells131.size = 65 := by kernel_rfl
theorem built_wr (s : Int) (x : Bk) (hx : x.length = 64) : List.foldl (fun (cs : Array Value) (x : Value × Nat) => cs.setIfInBounds (1 + x.2) x.1) (Tryz.zeroCells131.setIfInBounds 0 (.int .i64 s)) (bkC x).zipIdx = (wrC s x).toArray := by
  have hb : (bkC x).length = 64 := by rw [bkC_len, hx]
  have hz1 : (Tryz.zeroCells131.setIfInBounds 0 (.int .i64 s)).size = 65 := by rw [Array.size_setIfInBounds, zero_wr]
  obtain ⟨_, f2⟩ := Go.Great.foldl_set 1 (bkC x) 0 (Tryz.zeroCells131.setIfInBounds 0 (.int .i64 s))
  apply Array.ext_getElem?
  intro k
  rw [f2 k, hz1]
  by_cases hk : k < 65
  · by_cases hk0 : k = 0
    · subst hk0
      rw [if_neg (by omega), Array.getElem?_setIfInBounds_self_of_lt (by rw [zero_wr]; omega)]
      simp
    · rw [if_pos ⟨by omega, by omega, hk⟩]
      obtain ⟨m, rfl⟩ : ∃ m, k = m + 1 := ⟨k - 1, by omega⟩
      simp
  · rw [if_neg (by omega), Array.getElem?_eq_none (by omega), Array.getElem?_eq_none (by simp [hb]; omega)]
end Go.Proofs.YtfhfbpmlnjdfoaaGreatDoor
