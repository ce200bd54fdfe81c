/- Slices that a call made for itself, at any offset: 'Sl w e k v n xs': v has n elements of type e (k cells each), and these are the cells xs. -/
import Derived.Test.YtmgcekpfnkcmjaaBase
namespace Go.Proofs.Ytmgcekpfnkcmjaa
open Go Go.RowKit

/-- The cells of a slice (unfrozen, in one block), or nil. -/
def Sl (w : World) (e : TypeId) (k : Nat) (v : Value) (n : Nat) (xs : List Value) : Prop :=
  xs.length = n * k ∧ ((v = .slice none 0 0 ∧ n = 0) ∨
    ∃ g off cap cur, v = .slice (some ⟨g, off, none⟩) n cap ∧ w.heap[g]? = some (.cells cur e (0, 0)) ∧ n ≤ cap ∧ cap ≤ maxLen ∧ off + cap * k ≤ cur.size ∧
      ∀ j u, xs[j]? = some u → cur[off + j]? = some u)

/-- What is asked of a slice that is only read: its cells. -/
def Rd (w : World) (k : Nat) (v : Value) (n : Nat) (xs : List Value) : Prop :=
  xs.length = n * k ∧ n ≤ maxLen ∧ ∃ ao cap, v = .slice ao n cap ∧ (ao = none → n = 0) ∧ ∀ b, ao = some b → ∀ j u, xs[j]? = some u → w.cell? (b.add j) = some u

section
variable {w w' : World} {e : TypeId} {k n : Nat} {v : Value} {xs : List Value}

theorem Sl.nil (w : World) (e : TypeId) (k : Nat) : Sl w e k (.slice none 0 0) 0 [] := ⟨by simp, .inl ⟨rfl, rfl⟩⟩

theorem Sl.rd (h : Sl w e k v n xs) : Rd w k v n xs := by
  obtain ⟨hl, ⟨rfl, rfl⟩ | ⟨g, off, cap, cur, rfl, hg, hn, hm, hs, hc⟩⟩ := h
  · exact ⟨hl, Nat.zero_le _, none, 0, rfl, fun _ => rfl, fun b hb => by cases hb⟩
  · refine ⟨hl, Nat.le_trans hn hm, some ⟨g, off, none⟩, cap, rfl, (fun h => by cases h), (fun b hb => ?_)⟩
    cases hb
    intro j u hu
    rw [Addr.add_lit, cell_of_block hg]; exact hc j u hu

theorem Rd.len (h : Rd w k v n xs) : xs.length = n * k := h.1
theorem Sl.len (h : Sl w e k v n xs) : xs.length = n * k := h.1
theorem Rd.le (h : Rd w k v n xs) : n ≤ maxLen := h.2.1
theorem Sl.le (h : Sl w e k v n xs) : n ≤ maxLen := h.rd.le

theorem Sl.lt (h : Sl w e k v n xs) {g : Nat} (hg : v.ownBlock = some g) : g < w.heap.size := by
  obtain ⟨_, ⟨rfl, rfl⟩ | ⟨g', off, cap, cur, rfl, hg', _⟩⟩ := h
  · simp [Value.ownBlock] at hg
  · simp [Value.ownBlock] at hg; subst hg; exact lt_of_block hg'

theorem Sl.keep (h : Sl w e k v n xs) {S : Nat → Prop} (hu : Upd S w w') (hs : ∀ g, v.ownBlock = some g → ¬ S g) : Sl w' e k v n xs := by
  refine ⟨h.1, ?_⟩
  rcases h.2 with hn | ⟨g, off, cap, cur, rfl, hg, rest⟩
  · exact .inl hn
  · exact .inr ⟨g, off, cap, cur, rfl, (hu.block g (lt_of_block hg) (hs g rfl)).trans hg, rest⟩

/-- A cell that is there: its address is plain, its block lies in the heap. -/
theorem addr_of_cell {w : World} {a : Addr} {u : Value} (h : w.cell? a = some u) : a.spot = none ∧ a.block < w.heap.size := by
  refine ⟨?_, World.block_lt_of_cell? w a h⟩
  unfold World.cell? at h
  split at h
  · split at h
    · cases h
    · rename_i hs; simpa using hs
  · cases h

theorem Rd.keep (h : Rd w k v n xs) {S : Nat → Prop} (hu : Upd S w w') (hs : ∀ g, v.ownBlock = some g → ¬ S g) : Rd w' k v n xs := by
  obtain ⟨hl, hm, ao, cap, rfl, h0, hc⟩ := h
  refine ⟨hl, hm, ao, cap, rfl, h0, fun b hb j u hj => ?_⟩
  have h1 := hc b hb j u hj
  have hblk : (b.add j).block = b.block := by unfold Addr.add; split <;> rfl
  subst hb
  rw [hu.cell (addr_of_cell h1).2 (by rw [hblk]; exact hs b.block rfl)]
  exact h1

theorem Rd.nil_iff (h : Rd w k v n xs) : ∃ ao cap, v = .slice ao n cap := by obtain ⟨_, _, ao, cap, rfl, _⟩ := h; exact ⟨ao, cap, rfl⟩

/-- Where there is an element there is an address, and its cells. -/
theorem Rd.at (h : Rd w k v n xs) (hn : 0 < n) (hk : 0 < k := by decide) : ∃ bl off cap, v = .slice (some ⟨bl, off, none⟩) n cap ∧ bl < w.heap.size ∧ ∀ j u, xs[j]? = some u → w.cell? ⟨bl, off + j, none⟩ = some u := by
  obtain ⟨hl, hm, ao, cap, rfl, h0, hc⟩ := h
  cases ao with
  | none => have := h0 rfl; omega
  | some b =>
    have hc := hc b rfl
    have hx : 0 < xs.length := by rw [hl]; exact Nat.mul_pos hn hk
    obtain ⟨hs, hb⟩ := addr_of_cell (hc 0 _ (List.getElem?_eq_getElem hx))
    obtain ⟨bl, off, sp⟩ := b
    have hsp : sp = none := by unfold Addr.add at hs; split at hs <;> simp_all
    subst hsp
    rw [Addr.add_lit] at hb
    exact ⟨bl, off, cap, rfl, hb, fun j u hj => by have := hc j u hj; rwa [Addr.add_lit] at this⟩

theorem Sl.at (h : Sl w e k v n xs) (hn : 0 < n) : ∃ g off cap cur, v = .slice (some ⟨g, off, none⟩) n cap ∧ w.heap[g]? = some (.cells cur e (0, 0)) ∧ off + n * k ≤ cur.size ∧ ∀ j u, xs[j]? = some u → cur[off + j]? = some u := by
  obtain ⟨hl, ⟨rfl, rfl⟩ | ⟨g, off, cap, cur, rfl, hg, hnc, hm, hs, hc⟩⟩ := h
  · omega
  · exact ⟨g, off, cap, cur, rfl, hg, by have := Nat.mul_le_mul_right k hnc; omega, hc⟩

/-- Stores into a row of cells. -/
theorem heap_setCells_same : ∀ (vs : List Value) (o : Nat) (w : World) (b : Nat) (cur : Array Value) (T : TypeId) (fz : Nat × Nat), w.heap[b]? = some (.cells cur T fz) →
    ∃ cur', (w.setCells b o vs).heap[b]? = some (.cells cur' T fz) ∧ cur'.size = cur.size ∧ ∀ i, cur'[i]? = if o ≤ i ∧ i < o + vs.length ∧ i < cur.size then vs[i - o]? else cur[i]? := by
  intro vs
  induction vs with
  | nil => intro o w b cur T fz h; exact ⟨cur, h, rfl, fun i => by rw [if_neg (by simp; omega)]⟩
  | cons v vs ih =>
    intro o w b cur T fz h
    have h1 := heap_setCell_same h o v
    obtain ⟨cur', h2, h3, h4⟩ := ih (o + 1) (w.setCell ⟨b, o, none⟩ v) b _ T fz h1
    refine ⟨cur', h2, by simpa using h3, fun i => ?_⟩
    rw [h4]
    by_cases hi : o = i
    · subst hi
      rw [if_neg (by omega)]
      by_cases hs : o < cur.size
      · rw [if_pos ⟨by omega, by simp, hs⟩]; simp [hs]
      · rw [if_neg (by omega)]; simp [hs]
    · by_cases hr : o + 1 ≤ i ∧ i < o + 1 + vs.length ∧ i < cur.size
      · rw [if_pos (by simpa using hr), if_pos ⟨by omega, by simp; omega, hr.2.2⟩]
        have : i - o = (i - (o + 1)) + 1 := by omega
        rw [this, List.getElem?_cons_succ]
      · rw [if_neg (by simpa using hr), if_neg (by simp at hr ⊢; omega)]
        rw [Array.getElem?_setIfInBounds_ne hi]

theorem upd_setCells (S : Nat → Prop) (w : World) (b o : Nat) (vs : List Value) (hS : S b) : Upd S w (w.setCells b o vs) := by
  have : ∀ (vs : List Value) (o : Nat) (a w : World), Upd S a w → Upd S a (w.setCells b o vs) := by
    intro vs
    induction vs with
    | nil => intro o a w h; exact h
    | cons v vs ih => intro o a w h; exact ih _ _ _ (h.setCell ⟨b, o, none⟩ (fun _ => hS) v)
  exact this vs o w w (Upd.refl _ _)

theorem Upd.of_grown {S : Nat → Prop} {w w' : World} {row : Option Nat} (h : w.grownBy w' row) (hS : ∀ g, row = some g → g < w.heap.size → S g) : Upd S w w' :=
  ⟨h.os, h.tape, h.output, h.size, fun j hj hn => h.block j hj (fun e => hn (hS j e.symm hj))⟩

theorem Sl.of_own {base : Nat} (h : w.ownsRow base e k v n xs) : Sl w e k v n xs := by
  refine ⟨h.1, ?_⟩
  rcases h.2 with hn | ⟨g, cap, cur, rfl, hb, hg, hnc, hcm, hcs, ht⟩
  · exact .inl hn
  · refine .inr ⟨g, 0, cap, cur, rfl, hg, hnc, hcm, by omega, fun j u hu => ?_⟩
    rw [← ht, List.getElem?_take] at hu
    split at hu
    · simpa using hu
    · cases hu

/-- The block that a slice's value names. -/
def ownS (v : Value) : Nat → Prop := fun g => v.ownBlock = some g
/-- It lies from block B on (or there is none). -/
def From (B : Nat) (v : Value) : Prop := ∀ g, v.ownBlock = some g → B ≤ g
theorem From.nil (B n c : Nat) : From B (.slice none n c) := fun g h => by cases h
theorem From.mono {B B' : Nat} {v : Value} (h : From B v) (hb : B' ≤ B) : From B' v := fun g hg => Nat.le_trans hb (h g hg)
theorem From.len {B n n' c c' : Nat} {ao : Option Addr} (h : From B (.slice ao n c)) : From B (.slice ao n' c') := fun g hg => h g (by cases ao with | none => cases hg | some a => exact hg)
theorem From.own {B : Nat} {v : Value} (h : From B v) : ∀ k, ownS v k → B ≤ k := h

/-- The block of the value behind an append: the old one, or a new one. -/
def blockFrom (w : World) (v v' : Value) : Prop := v'.ownBlock = v.ownBlock ∨ ∃ g, v'.ownBlock = some g ∧ w.heap.size ≤ g

/-- APPEND onto a slice of one's own. -/
theorem wpList_append_sl {P : Program} {ops : Array Oper} {rest : List Oper} {o : Oper} {a : Act} {Q : Exit → Act → World → Prop} (hgd : o.guard = none) (s x : Operand) (t : TypeId)
    (ho : o.op = .call { callee := .builtin .append, args := #[s, x], argTypes := #[t, t] })
    (i : TypeInfo) (z : Value) (bytes : Nat) (ht : P.underlying t = some (.slice e)) (hi : P.info? e = some i) (hz : i.zero = some z)
    (hsize : i.size = k) (hby : i.bytes = bytes) (hzs : z.cells.size = k) (hsz : 0 < k)
    (hs : a.eval s = v) (hown : Sl w e k v n xs)
    (x' : Value) (m : Nat) (news : List Value) (hx : a.eval x = x') (hr : Rd w k x' m news) (h1 : ∀ u ∈ news, u.oneCell' = true)
    (h63 : n + m ≤ maxLen) (hbytes : (n + m) * bytes ≤ 140737488355328)
    (h : ∀ v' w', Sl w' e k v' (n + m) (xs ++ news) → Upd (ownS v) w w' → blockFrom w v v' → wpList P ops Q rest (a.put o.dst v') w') : wpList P ops Q (o :: rest) a w := by
  obtain ⟨hnl, hml, ao, xc, rfl, hx0, hxc⟩ := hr
  cases ao with
  | none =>
    have hm0 := hx0 rfl
    subst hm0
    obtain rfl : news = [] := List.eq_nil_of_length_eq_zero (by simpa using hnl)
    have hrun : (Builtin.append_ #[t, t] o.type #[v, .slice none 0 xc]).run P w = .ok v w := by
      obtain ⟨_, ⟨rfl, rfl⟩ | ⟨g, off, cap, cur, rfl, hg, hnc, hcm, hcs, hcell⟩⟩ := hown
      · simp [Builtin.append_, run_underlying ht, sizeOf, typeInfo, hi, Builtin.lenOf, Builtin.firstCells]
      · simp [Builtin.append_, run_underlying ht, sizeOf, typeInfo, hi, Builtin.lenOf, Builtin.firstCells, hnc, storeCells]
    refine wpList_plain hgd fun K hK' => ?_
    unfold Oper.wp
    simp [execOp, ho, resolve, invoke, builtin, hs, hx, hrun, Result.andThen]
    exact hK' _ _ (h v w (by simpa using hown) (Upd.refl _ _) (.inl rfl))
  | some ad =>
  have hac' := hxc ad rfl
  have hown' := hown
  obtain ⟨hl, ⟨rfl, rfl⟩ | ⟨g, off, cap, cur, rfl, hg, hnc, hcm, hcs, hcell⟩⟩ := hown
  · obtain rfl : xs = [] := List.eq_nil_of_length_eq_zero (by simpa using hl)
    by_cases hm0 : m = 0
    · subst hm0
      obtain rfl : news = [] := List.eq_nil_of_length_eq_zero (by simpa using hnl)
      have hrun : (Builtin.append_ #[t, t] o.type #[.slice none 0 0, .slice (some ad) 0 xc]).run P w = .ok (.slice none 0 0) w := by
        simp [Builtin.append_, run_underlying ht, sizeOf, typeInfo, hi, Builtin.lenOf, Builtin.firstCells, loadCells, loadCellsFrom]
      refine wpList_plain hgd fun K hK' => ?_
      unfold Oper.wp
      simp [execOp, ho, resolve, invoke, builtin, hs, hx, hrun, Result.andThen]
      exact hK' _ _ (h _ w (by simpa using hown') (Upd.refl _ _) (.inl rfl))
    · refine wpList_append_grows w hgd s x t ho e i z k bytes ht hi hz hsize hby hzs hsz none 0 0 [] hs (fun _ => ⟨rfl, rfl⟩) (by simp) (fun b hb => by cases hb) ad m xc news hx hnl hac' h1 (by omega) h63 hbytes ?_
      intro v' w' ho' hg'
      refine h v' w' (Sl.of_own ho') (Upd.of_grown hg' (fun g hg _ => by cases hg)) ?_
      rcases ho'.2 with ⟨rfl, h0⟩ | ⟨g', cap', cur', rfl, hb', _⟩
      · omega
      · exact .inr ⟨g', rfl, hb'⟩
  · refine wpList_append_arg w hgd s x t ho e i z k bytes ht hi hz hsize hby hzs hsz g off n cap xs hs hl (fun j u hj => by rw [cell_of_block hg]; exact hcell j u hj) ad m xc news hx hnl hac' h1 ?_ h63 hbytes ?_ ?_
    · intro hroom j hj
      have hj' : off + n * k + j < cur.size := by
        have := Nat.mul_le_mul_right k hroom
        rw [Nat.add_mul] at this
        omega
      exact ⟨by rw [cell_of_block hg]; simp [hj'], frozen_of_block hg _⟩
    · intro hroom
      obtain ⟨cur', h2, h3, h4⟩ := heap_setCells_same news (off + n * k) w g cur e (0, 0) hg
      have hm := Nat.mul_le_mul_right k hroom
      rw [Nat.add_mul] at hm
      refine h _ _ ⟨by rw [List.length_append, hl, hnl, Nat.add_mul], .inr ⟨g, off, cap, cur', rfl, h2, hroom, hcm, by omega, fun j u hj => ?_⟩⟩ (upd_setCells _ w g _ news rfl) (.inl rfl)
      rw [h4]
      by_cases hj1 : j < xs.length
      · rw [List.getElem?_append_left hj1] at hj
        rw [if_neg (by omega)]
        exact hcell j u hj
      · rw [List.getElem?_append_right (by omega)] at hj
        have hlt := (List.getElem?_eq_some_iff.1 hj).1
        rw [if_pos ⟨by omega, by omega, by omega⟩]
        have : off + j - (off + n * k) = j - xs.length := by omega
        rw [this]; exact hj
    · intro hfull v' w' ho' hg'
      refine h v' w' (Sl.of_own ho') (Upd.of_grown hg' (fun g hg _ => by cases hg)) ?_
      rcases ho'.2 with ⟨rfl, h0⟩ | ⟨g', cap', cur', rfl, hb', _⟩
      · omega
      · exact .inr ⟨g', rfl, hb'⟩

/-- A slice that was just built. -/
theorem Rd.fresh (w : World) (news : List Value) (e : TypeId) {k m : Nat} (c : Nat) (hl : news.length = m * k) (hm : m ≤ maxLen) : Rd (w.alloc (.cells news.toArray e)) k (.slice (some ⟨w.heap.size, 0, none⟩) m c) m news := by
  refine ⟨hl, hm, some ⟨w.heap.size, 0, none⟩, c, rfl, (fun h => by cases h), (fun b hb => ?_)⟩
  cases hb
  intro j u hj
  rw [Addr.add_lit, cell_of_block (heap_alloc_last _ _ rfl)]
  simpa using hj

theorem blockFrom.ge {w : World} {v v' : Value} (h : blockFrom w v v') {B : Nat} (hB : B ≤ w.heap.size) (hv : From B v) : From B v' := by
  intro g hg
  rcases h with h | ⟨g', h, hle⟩
  · exact hv g (by rw [← h]; exact hg)
  · rw [h] at hg; cases hg; omega

/-- APPEND of one element (k cells), that the operation ahead of it has laid in a block of its own. -/
theorem wpList_append_one {P : Program} {ops : Array Oper} {rest : List Oper} {o : Oper} {a : Act} {Q : Exit → Act → World → Prop} (hgd : o.guard = none) (s x : Operand) (t : TypeId)
    (ho : o.op = .call { callee := .builtin .append, args := #[s, x], argTypes := #[t, t] })
    (i : TypeInfo) (z : Value) (bytes : Nat) (ht : P.underlying t = some (.slice e)) (hi : P.info? e = some i) (hz : i.zero = some z)
    (hsize : i.size = k) (hby : i.bytes = bytes) (hzs : z.cells.size = k) (hsz : 0 < k)
    (hs : a.eval s = v) (hown : Sl w e k v n xs) (news : List Value) (hx : a.eval x = .slice (some ⟨w.heap.size, 0, none⟩) 1 1) (hl : news.length = k) (h1 : ∀ u ∈ news, u.oneCell' = true)
    (h63 : n + 1 ≤ maxLen) (hbytes : (n + 1) * bytes ≤ 140737488355328)
    (h : ∀ v' w', Sl w' e k v' (n + 1) (xs ++ news) → Upd (ownS v) w w' → blockFrom w v v' → wpList P ops Q rest (a.put o.dst v') w') :
    wpList P ops Q (o :: rest) a (w.alloc (.cells news.toArray e)) := by
  refine wpList_append_sl hgd s x t ho i z bytes ht hi hz hsize hby hzs hsz hs (hown.keep ((Upd.refl (fun _ => False) w).alloc _) (fun _ _ h => h)) _ 1 news hx (Rd.fresh w news e 1 (by omega) (by unfold maxLen; omega)) h1 h63 hbytes ?_
  intro v' w' h2 h3 h4
  refine h v' w' h2 (Upd.new ((Upd.refl _ _).alloc _) h3 (fun i _ h => h)) ?_
  rcases h4 with h4 | ⟨g, h4, h5⟩
  · exact .inl h4
  · exact .inr ⟨g, h4, by simp at h5; omega⟩

/-- A slice from B on is not touched by what turns blocks below B alone; and so on. -/
theorem Sl.keep_lt {w w' : World} {e : TypeId} {k n : Nat} {v : Value} {xs : List Value} (h : Sl w e k v n xs) {S : Nat → Prop} {B : Nat} (hf : From B v) (hu : Upd S w w') (hS : ∀ j, S j → j < B) : Sl w' e k v n xs :=
  h.keep hu (fun g hg hs => by have := hS g hs; have := hf g hg; omega)
theorem Sl.keep_from {w w' : World} {e : TypeId} {k n : Nat} {v : Value} {xs : List Value} (h : Sl w e k v n xs) {S : Nat → Prop} {B : Nat} (hlt : ∀ g, v.ownBlock = some g → g < B) (hu : Upd S w w') (hS : ∀ j, S j → B ≤ j) : Sl w' e k v n xs :=
  h.keep hu (fun g hg hs => by have := hS g hs; have := hlt g hg; omega)
theorem Rd.below {w w' : World} {k n : Nat} {v : Value} {xs : List Value} (h : Rd w k v n xs) (hb : Below w.heap.size w w') : Rd w' k v n xs := h.keep (Upd.of_below (S := fun _ => False) hb) (fun _ _ h => h)
theorem below_upd {B : Nat} {a w w' : World} {S : Nat → Prop} (h : Below B a w) (hu : Upd S w w') (hB : B ≤ a.heap.size) (hs : ∀ k, S k → B ≤ k) : Below B a w' :=
  ⟨hu.os.trans h.os, hu.tape.trans h.tape, hu.output.trans h.output, Nat.le_trans h.size hu.size, fun k hk => (hu.block k (by have := h.size; omega) (fun hS => by have := hs k hS; omega)).trans (h.block k hk)⟩
theorem below_drewN {B : Nat} {a w : World} (h : Below B a w) (n : Nat) : Below B a (w.drewN n) := ⟨h.os, h.tape, h.output, h.size, h.block⟩

/-- Two slices that do not share a block. -/
def Dis (v u : Value) : Prop := ∀ g, v.ownBlock = some g → u.ownBlock = some g → False
theorem Dis.symm {v u : Value} (h : Dis v u) : Dis u v := fun g h1 h2 => h g h2 h1
theorem Dis.nil (n c : Nat) (u : Value) : Dis (.slice none n c) u := fun g h => by cases h
theorem Dis.from {w : World} {v v' u : Value} (h : Dis v u) (hb : blockFrom w v v') (hu : ∀ g, u.ownBlock = some g → g < w.heap.size) : Dis v' u := by
  intro g h1 h2
  rcases hb with hb | ⟨g', hb, hle⟩
  · exact h g (by rw [← hb]; exact h1) h2
  · rw [hb] at h1; cases h1; have := hu g h2; omega
theorem Dis.len {ao : Option Addr} {n n' c c' : Nat} {u : Value} (h : Dis (.slice ao n c) u) : Dis (.slice ao n' c') u := fun g h1 h2 => h g (by cases ao with | none => cases h1 | some a => exact h1) h2
theorem Sl.keep_dis {w w' : World} {e : TypeId} {k n : Nat} {v u : Value} {xs : List Value} (h : Sl w e k v n xs) (hd : Dis v u) (hu : Upd (ownS u) w w') : Sl w' e k v n xs :=
  h.keep hu (fun g hg hs => hd g hg hs)
theorem Rd.keep_dis {w w' : World} {k n : Nat} {v u : Value} {xs : List Value} (h : Rd w k v n xs) (hd : Dis v u) (hu : Upd (ownS u) w w') : Rd w' k v n xs :=
  h.keep hu (fun g hg hs => hd g hg hs)
theorem Dis.of_lt {B : Nat} {v u : Value} (h : ∀ g, v.ownBlock = some g → g < B) (hf : From B u) : Dis v u := fun g h1 h2 => by have := h g h1; have := hf g h2; omega

/-- 's[1:]'. -/
theorem Sl.tail {w : World} {e : TypeId} {g off n cap : Nat} {x : Value} {xs : List Value} (h : Sl w e 1 (.slice (some ⟨g, off, none⟩) (n + 1) cap) (n + 1) (x :: xs)) :
    Sl w e 1 (.slice (some ⟨g, off + 1, none⟩) n (cap - 1)) n xs ∧ (cap = 1 → Sl w e 1 (.slice (some ⟨g, off, none⟩) n 0) n xs) ∧ 1 ≤ cap := by
  obtain ⟨hl, ⟨h1, _⟩ | ⟨g', off', cap', cur, h1, hg, hn, hm, hs, hc⟩⟩ := h
  · cases h1
  · cases h1
    simp at hl
    refine ⟨⟨by omega, .inr ⟨g, off + 1, cap - 1, cur, rfl, hg, by omega, by omega, by omega, fun j u hj => ?_⟩⟩, fun hcap => ⟨by omega, .inr ⟨g, off, 0, cur, rfl, hg, by omega, by omega, by omega, fun j u hj => ?_⟩⟩, by omega⟩
    · have := hc (j + 1) u (by simpa using hj)
      rw [← this]; congr 1; omega
    · have := (List.getElem?_eq_some_iff.1 hj).1; omega
theorem Sl.keep_ne {w w' : World} {e : TypeId} {k n : Nat} {v : Value} {xs : List Value} (h : Sl w e k v n xs) {b : Nat} (hu : Upd (fun j => j = b) w w') (hne : v.ownBlock ≠ some b) : Sl w' e k v n xs :=
  h.keep hu (fun g hg hs => hne (by rw [hg, hs]))
theorem upd_setCell (w : World) (b i : Nat) (u : Value) : Upd (fun j => j = b) w (w.setCell ⟨b, i, none⟩ u) := Upd.setCell (S := fun j => j = b) (Upd.refl _ w) ⟨b, i, none⟩ (fun _ => rfl) u
end
end Go.Proofs.Ytmgcekpfnkcmjaa
