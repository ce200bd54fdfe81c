/- Words on worlds: what a call may have turned ('Upd S w w''), and facts on blocks. Things in memory that do not share a block: to each block its owner, a number; 0: nobody's. Slices that a call made for itself, at any offset: 'Sl w e k v n xs': v has n elements of type e (k cells each), and these are the cells xs. Rows of ints, as cells. Blocks of 64 bytes, rows of them in memory. A device in memory: New, Size, Open, has; the fate of a call. -/
import Derived.WalkKit
import Derived.ProofKit
import Derived.OpenShut
import Derived.Handy
import Derived.Deep.QuietTactic
import Derived.BigQuiet
import Derived.StillTailTactics
import Derived.Lib.Hide
import Derived.Deep.LoopGhost
import Derived.Deep.DeepCutAuto
import Derived.Deep.RegionHeld3
import Derived.Deep.MidRow
import Derived.Deep.RegionWith
import Derived.WalkSpells
import Derived.WalkMore
import Derived.Test.YtfhfbpmlnjdfoaaGreatDoorProg
import Derived.Stop.BytesEq
import Derived.Laws.ResultCell
namespace Go.Proofs.YtfhfbpmlnjdfoaaGreatDoor
open Go Go.RowKit
structure Upd (S : Nat → Prop) (w w' : World) : Prop where
  os : w'.os = w.os
  tape : w'.tape = w.tape
  output : w'.output = w.output
  size : w.heap.size ≤ w'.heap.size
  block : ∀ k, k < w.heap.size → ¬ S k → w'.heap[k]? = w.heap[k]?
namespace Upd
theorem refl (S : Nat → Prop) (w : World) : Upd S w w := ⟨rfl, rfl, rfl, Nat.le_refl _, fun _ _ _ => rfl⟩
theorem trans {S : Nat → Prop} {a b c : World} (h : Upd S a b) (k : Upd S b c) : Upd S a c :=
  ⟨k.os.trans h.os, k.tape.trans h.tape, k.output.trans h.output, Nat.le_trans h.size k.size,
   fun i hi hs => (k.block i (Nat.lt_of_lt_of_le hi h.size) hs).trans (h.block i hi hs)⟩
theorem mono {S S' : Nat → Prop} {a b : World} (h : Upd S a b) (hs : ∀ k, k < a.heap.size → S k → S' k) : Upd S' a b :=
  ⟨h.os, h.tape, h.output, h.size, fun i hi hn => h.block i hi fun hS => hn (hs i hi hS)⟩
theorem drew {S : Nat → Prop} {a w : World} (h : Upd S a w) : Upd S a w.drew := ⟨h.os, h.tape, h.output, h.size, h.block⟩
theorem drewN {S : Nat → Prop} {a w : World} (h : Upd S a w) (n : Nat) : Upd S a (w.drewN n) := ⟨h.os, h.tape, h.output, h.size, h.block⟩
theorem alloc {S : Nat → Prop} {a w : World} (h : Upd S a w) (o : Obj) : Upd S a (w.alloc o) :=
  h.trans ⟨rfl, rfl, rfl, by simp, fun k hk _ => Below.heap_alloc _ _ _ hk⟩
theorem setCell {S : Nat → Prop} {a w : World} (h : Upd S a w) (p : Addr) (hp : p.block < a.heap.size → S p.block) (u : Value) : Upd S a (w.setCell p u) :=
  ⟨h.os, h.tape, h.output, by simpa using h.size, fun k hk hs => by
    rw [Below.heap_setCell]
    · exact h.block k hk hs
    · rintro rfl; exact hs (hp hk)⟩
theorem below {a w : World} (h : Upd (fun _ => False) a w) : Below a.heap.size a w :=
  ⟨h.os, h.tape, h.output, h.size, fun k hk => h.block k hk (fun h => h)⟩
theorem of_below {S : Nat → Prop} {a w : World} (h : Below a.heap.size a w) : Upd S a w :=
  ⟨h.os, h.tape, h.output, h.size, fun k hk _ => h.block k hk⟩
theorem new {S S' : Nat → Prop} {a w w' : World} (h : Upd S' a w) (k : Upd S w w') (hs : ∀ i, i < a.heap.size → S i → S' i) : Upd S' a w' :=
  ⟨k.os.trans h.os, k.tape.trans h.tape, k.output.trans h.output, Nat.le_trans h.size k.size,
   fun i hi hn => (k.block i (Nat.lt_of_lt_of_le hi h.size) fun hS => hn (hs i hi hS)).trans (h.block i hi hn)⟩
theorem cell {S : Nat → Prop} {w w' : World} (h : Upd S w w') {p : Addr} (hp : p.block < w.heap.size) (hs : ¬ S p.block) : w'.cell? p = w.cell? p :=
  World.cell?_of_block (w := w) (h.block p.block hp hs)
theorem frozen {S : Nat → Prop} {w w' : World} (h : Upd S w w') {p : Addr} (hp : p.block < w.heap.size) (hs : ¬ S p.block) : w'.frozen? p = w.frozen? p :=
  World.frozen?_of_block (w := w) (h.block p.block hp hs)
theorem cellAt {S : Nat → Prop} {w w' : World} (h : Upd S w w') {b o : Nat} (hp : b < w.heap.size) (hs : ¬ S b) : w'.cell? ⟨b, o, none⟩ = w.cell? ⟨b, o, none⟩ := h.cell (p := ⟨b, o, none⟩) hp hs
theorem frozenAt {S : Nat → Prop} {w w' : World} (h : Upd S w w') {b o : Nat} (hp : b < w.heap.size) (hs : ¬ S b) : w'.frozen? ⟨b, o, none⟩ = w.frozen? ⟨b, o, none⟩ := h.frozen (p := ⟨b, o, none⟩) hp hs
theorem lt {S : Nat → Prop} {w w' : World} (h : Upd S w w') {k : Nat} (hk : k < w.heap.size) : k < w'.heap.size := Nat.lt_of_lt_of_le hk h.size
end Upd
theorem lt_of_block {w : World} {b : Nat} {o : Obj} (h : w.heap[b]? = some o) : b < w.heap.size := (Array.getElem?_eq_some_iff.1 h).1
theorem cell_of_block {w : World} {b : Nat} {cs : Array Value} {T : TypeId} {fz : Nat × Nat} (h : w.heap[b]? = some (.cells cs T fz)) (i : Nat) : w.cell? ⟨b, i, none⟩ = cs[i]? := by
  simp [World.cell?, h]
theorem frozen_of_block {w : World} {b : Nat} {cs : Array Value} {T : TypeId} (h : w.heap[b]? = some (.cells cs T (0, 0))) (i : Nat) : w.frozen? ⟨b, i, none⟩ = false := by
  simp [World.frozen?, h]
theorem heap_setCell_same {w : World} {b : Nat} {cs : Array Value} {T : TypeId} {fz : Nat × Nat} (h : w.heap[b]? = some (.cells cs T fz)) (i : Nat) (u : Value) :
    (w.setCell ⟨b, i, none⟩ u).heap[b]? = some (.cells (cs.setIfInBounds i u) T fz) := by
  simp [World.setCell, Array.getElem?_modify, h]
theorem heap_alloc_last (w : World) (o : Obj) {n : Nat} (h : n = w.heap.size) : (w.alloc o).heap[n]? = some o := by
  subst h; show (w.heap.push o)[w.heap.size]? = _; simp
def Wl (_ : List Nat) (G : Prop) : Prop := G
namespace Wl
theorem i {G : Prop} (l : List Nat) (h : Wl l G) : G := h
theorem o {G : Prop} (h : G) : Wl [] G := h
section
variable {P : Program} {md : Region.Mode} {ops : Array Oper} {Q : Exit → Act → World → Prop} {S : World → Prop} {k : Nat} {oi : Oper} {v : Value} {fuel : Nat} {listed : Array Bool} {a a' : Act} {w : World} {ks : List Nat}
theorem t (hS : S w) (h : Wl ks (wpAnyH P md ops Q S fuel (listed.setIfInBounds k true) a' w)) (hi : ops[k]? = some oi := by rfl) (hs : Region.noSelect ops = true := by kernel_rfl) (hf : Region.free md ops listed k = true := by kernel_rfl)
    (hr : (Region.ready md ops listed).contains k = true := by kernel_rfl) (hQ : ∀ c a w, Q (.panic c) (a.put oi.dst v) w → Q (.panic c) a w := by exact fun _ _ _ h => h)
    (hy : YieldsIf P ops S oi v a := by first | (refine Or.inr ⟨?_, rfl⟩; rfl) | (refine Or.inl ⟨?_, ?_⟩; rfl; intro W hSw; (try dsimp only at hSw); (try go_split_ands); go_simp; (try with_reducible rfl)))
    (ha : a.put oi.dst v = a' := by simp only [List.getElem_toArray, List.getElem_cons_succ, List.getElem_cons_zero, Act.put, List.setIfInBounds_toArray, List.set_cons_zero, List.set_cons_succ]; rfl) : Wl (k :: ks) (wpAnyH P md ops Q S (fuel + 1) listed a w) :=
  wpAnyH_take hi hs hf hr hQ hy hS (ha ▸ h)
theorem l (k : Nat) {ty : TypeId} {x : Operand} {b o : Nat} {cs : List Value} {d : TypeDesc} (hS : ∀ w, S w → w.rangeAt b o cs) (hu : P.underlying ty = some d) (hz : (P.info? ty).map (·.size) = some cs.length) (hw : S w)
    (h : wpAnyH P md ops Q S fuel (listed.setIfInBounds k true) a' w) (hi : ops[k]? = some oi := by rfl) (hs : Region.noSelect ops = true := by kernel_rfl) (hf : Region.free md ops listed k = true := by kernel_rfl)
    (hr : (Region.ready md ops listed).contains k = true := by kernel_rfl) (hQ : ∀ c a w, Q (.panic c) (a.put oi.dst (.agg cs.toArray)) w → Q (.panic c) a w := by exact fun _ _ _ h => h)
    (hg : Region.wanted oi (yielded ops a.tmps) = true := by rfl) (ho : oi.op = .load ty x := by rfl) (hx : a.eval x = .pointer (some ⟨b, o, none⟩) := by rfl) (hd : d.isRow = true := by rfl)
    (ha : a.put oi.dst (.agg cs.toArray) = a' := by simp only [List.getElem_toArray, List.getElem_cons_succ, List.getElem_cons_zero, Act.put, List.setIfInBounds_toArray, List.set_cons_zero, List.set_cons_succ]; rfl) : wpAnyH P md ops Q S (fuel + 1) listed a w :=
  wpAnyH_take hi hs hf hr hQ (yieldsIf_load_mid hg ty x ho b o hx cs d hS hu hd hz) hw (ha ▸ h)
theorem r (k : Nat) (h : ∀ K' : Act → World → Prop, Shut (∀ a w, S w → (S w → wpAnyH P md ops Q S fuel (listed.setIfInBounds k true) a w) → K' a w) → if Region.wanted oi (yielded ops a.tmps) = true then Oper.wp P oi a w K' Q else K' (a.put oi.dst undef) w)
    (hi : ops[k]? = some oi := by rfl) (hr : Region.ready md ops listed = [k] := by kernel_rfl) : wpAnyH P md ops Q S (fuel + 1) listed a w :=
  wpAnyH_ready hr (by simp) (AllReadyH.cons hi h AllReadyH.nil)
theorem d (h : Q .normal a w) (hr : Region.ready md ops listed = [] := by kernel_rfl) : wpAnyH P md ops Q S fuel listed a w := wpAnyH_done hr h _
end
end Wl
structure Thing (R : (Nat → Prop) → World → Prop) : Prop where
  keep : ∀ {S T : Nat → Prop} {w w' : World}, R S w → Upd T w w' → (∀ j, S j → ¬ T j) → R S w'
  out : ∀ {S S' : Nat → Prop} {w : World}, R S w → (∀ j, j < w.heap.size → S j → S' j) → R S' w
def grow (own : Nat → Nat) (t n n' : Nat) : Nat → Nat := fun j => if n ≤ j ∧ j < n' then t else own j
theorem grow_old {own : Nat → Nat} {t n n' j : Nat} (h : j < n) : grow own t n n' j = own j := if_neg (by omega)
theorem grow_new {own : Nat → Nat} {t n n' j : Nat} (h : n ≤ j) (h' : j < n') : grow own t n n' j = t := if_pos ⟨h, h'⟩
structure Did (own own' : Nat → Nat) (w w' : World) : Prop where
  upd : Upd (fun j => own j ≠ 0 ∧ own j < 16) w w'
  old : ∀ j, j < w.heap.size → own' j = own j
  new : ∀ j, w.heap.size ≤ j → own' j < 16
  far : ∀ j, w'.heap.size ≤ j → own' j = 0
section
variable {own own' own2 : Nat → Nat} {w w' w2 : World} {R : (Nat → Prop) → World → Prop} {t k : Nat}
theorem Did.refl (h : ∀ j, w.heap.size ≤ j → own j = 0) : Did own own w w := ⟨Upd.refl _ _, fun _ _ => rfl, fun j hj => by rw [h j hj]; decide, h⟩
theorem Did.trans (h : Did own own' w w') (g : Did own' own2 w' w2) : Did own own2 w w2 where
  upd := h.upd.new g.upd (fun j hj hs => by rw [← h.old j hj]; exact hs)
  old := fun j hj => (g.old j (Nat.lt_of_lt_of_le hj h.upd.size)).trans (h.old j hj)
  new := fun j hj => by
    by_cases hl : j < w'.heap.size
    · rw [g.old j hl]; exact h.new j hj
    · exact g.new j (by omega)
  far := g.far
theorem Did.drew (h : Did own own' w w') : Did own own' w w'.drew := ⟨h.upd.drew, h.old, h.new, h.far⟩
theorem Did.setCell (h : Did own own' w w') (p : Addr) (hp : p.block < w.heap.size → own p.block ≠ 0 ∧ own p.block < 16) (u : Value) : Did own own' w (w'.setCell p u) :=
  ⟨h.upd.setCell p hp u, h.old, h.new, fun j hj => h.far j (by simpa using hj)⟩
theorem Did.step (hf : ∀ j, w.heap.size ≤ j → own j = 0) (ht : t ≠ 0) (h16 : t < 16) (hu : Upd (fun j => own j = t ∨ w.heap.size ≤ j) w w') : Did own (grow own t w.heap.size w'.heap.size) w w' where
  upd := hu.mono (fun j hj hs => by rcases hs with hs | hs; exact hs ▸ ⟨ht, h16⟩; omega)
  old := fun j hj => grow_old hj
  new := fun j hj => by
    unfold grow
    split
    · exact h16
    · rw [hf j hj]; decide
  far := fun j hj => by
    have := hu.size
    unfold grow
    rw [if_neg (by omega)]
    exact hf j (by omega)
theorem Thing.other (hR : Thing R) (h : R (fun j => own j = k) w) (hk : k ≠ t) (hu : Upd (fun j => own j = t ∨ w.heap.size ≤ j) w w') : R (fun j => grow own t w.heap.size w'.heap.size j = k) w' := by
  have h1 : R (fun j => own j = k ∧ j < w.heap.size) w := hR.out h (fun j hj hs => ⟨hs, hj⟩)
  have h2 := hR.keep h1 hu (fun j hs ht => by rcases ht with ht | ht; exact hk (hs.1.symm.trans ht); omega)
  exact hR.out h2 (fun j hj hs => by rw [grow_old hs.2]; exact hs.1)
theorem Thing.mine (hR : Thing R) (_hu : w.heap.size ≤ w'.heap.size) (h : R (fun j => own j = t ∨ w.heap.size ≤ j) w') : R (fun j => grow own t w.heap.size w'.heap.size j = t) w' :=
  hR.out h (fun j hj hs => by
    by_cases hl : w.heap.size ≤ j
    · exact grow_new hl hj
    · rw [grow_old (by omega)]; exact hs.resolve_right hl)
theorem Thing.open (hR : Thing R) (h : R (fun j => own j = t) w) : R (fun j => own j = t ∨ w.heap.size ≤ j) w := hR.out h (fun _ _ hs => .inl hs)
theorem Thing.new (hR : Thing R) {S : Nat → Prop} (h : R S w) (hu : Upd (fun _ => False) w w') : R S w' := hR.keep h hu (fun _ _ h => h)
end
def Sl (w : World) (e : TypeId) (k : Nat) (v : Value) (n : Nat) (xs : List Value) : Prop :=
  xs.length = n * k ∧ ((v = .slice none 0 0 ∧ n = 0) ∨
    ∃ g off cap cur, v = .slice (some ⟨g, off, none⟩) n cap ∧ w.heap[g]? = some (.cells cur e (0, 0)) ∧ n ≤ cap ∧ cap ≤ maxLen ∧ off + cap * k ≤ cur.size ∧
      ∀ j u, xs[j]? = some u → cur[off + j]? = some u)
def Rd (w : World) (k : Nat) (v : Value) (n : Nat) (xs : List Value) : Prop :=
  xs.length = n * k ∧ n ≤ maxLen ∧ ∃ ao cap, v = .slice ao n cap ∧ (ao = none → n = 0) ∧ ∀ b, ao = some b → ∀ j u, xs[j]? = some u → w.cell? (b.add j) = some u
section
variable {w w' : World} {e : TypeId} {k n : Nat} {v : Value} {xs : List Value}
theorem Sl.nil (w : World) (e : TypeId) (k : Nat) : Sl w e k (.slice none 0 0) 0 [] := ⟨by simp, .inl ⟨rfl, rfl⟩⟩
theorem Sl.rd (h : Sl w e k v n xs) : Rd w k v n xs := by
  obtain ⟨hl, ⟨rfl, rfl⟩ | ⟨g, off, cap, cur, rfl, hg, hn, hm, hs, hc⟩⟩ := h
  · exact ⟨hl, Nat.zero_le _, none, 0, rfl, fun _ => rfl, fun b hb => by cases hb⟩
  · refine ⟨hl, Nat.le_trans hn hm, some ⟨g, off, none⟩, cap, rfl, (fun h => by cases h), (fun b hb => ?_)⟩
    cases hb
    intro j u hu
    rw [Addr.add_lit, cell_of_block hg]; exact hc j u hu
theorem Sl.len (h : Sl w e k v n xs) : xs.length = n * k := h.1
theorem Rd.le (h : Rd w k v n xs) : n ≤ maxLen := h.2.1
theorem Sl.le (h : Sl w e k v n xs) : n ≤ maxLen := h.rd.le
theorem Sl.lt (h : Sl w e k v n xs) {g : Nat} (hg : v.ownBlock = some g) : g < w.heap.size := by
  obtain ⟨_, ⟨rfl, rfl⟩ | ⟨g', off, cap, cur, rfl, hg', _⟩⟩ := h
  · simp [Value.ownBlock] at hg
  · simp [Value.ownBlock] at hg; subst hg; exact lt_of_block hg'
theorem Sl.keep (h : Sl w e k v n xs) {S : Nat → Prop} (hu : Upd S w w') (hs : ∀ g, v.ownBlock = some g → ¬ S g) : Sl w' e k v n xs := by
  refine ⟨h.1, ?_⟩
  rcases h.2 with hn | ⟨g, off, cap, cur, rfl, hg, rest⟩
  · exact .inl hn
  · exact .inr ⟨g, off, cap, cur, rfl, (hu.block g (lt_of_block hg) (hs g rfl)).trans hg, rest⟩
theorem addr_of_cell {w : World} {a : Addr} {u : Value} (h : w.cell? a = some u) : a.spot = none ∧ a.block < w.heap.size := by
  refine ⟨?_, World.block_lt_of_cell? w a h⟩
  unfold World.cell? at h
  split at h
  · split at h
    · cases h
    · rename_i hs; simpa using hs
  · cases h
theorem Rd.keep (h : Rd w k v n xs) {S : Nat → Prop} (hu : Upd S w w') (hs : ∀ g, v.ownBlock = some g → ¬ S g) : Rd w' k v n xs := by
  obtain ⟨hl, hm, ao, cap, rfl, h0, hc⟩ := h
  refine ⟨hl, hm, ao, cap, rfl, h0, fun b hb j u hj => ?_⟩
  have h1 := hc b hb j u hj
  have hblk : (b.add j).block = b.block := by unfold Addr.add; split <;> rfl
  subst hb
  rw [hu.cell (addr_of_cell h1).2 (by rw [hblk]; exact hs b.block rfl)]
  exact h1
theorem Rd.nil_iff (h : Rd w k v n xs) : ∃ ao cap, v = .slice ao n cap := by obtain ⟨_, _, ao, cap, rfl, _⟩ := h; exact ⟨ao, cap, rfl⟩
theorem Rd.at (h : Rd w k v n xs) (hn : 0 < n) (hk : 0 < k := by decide) : ∃ bl off cap, v = .slice (some ⟨bl, off, none⟩) n cap ∧ bl < w.heap.size ∧ ∀ j u, xs[j]? = some u → w.cell? ⟨bl, off + j, none⟩ = some u := by
  obtain ⟨hl, hm, ao, cap, rfl, h0, hc⟩ := h
  cases ao with
  | none => have := h0 rfl; omega
  | some b =>
    have hc := hc b rfl
    have hx : 0 < xs.length := by rw [hl]; exact Nat.mul_pos hn hk
    obtain ⟨hs, hb⟩ := addr_of_cell (hc 0 _ (List.getElem?_eq_getElem hx))
    obtain ⟨bl, off, sp⟩ := b
    have hsp : sp = none := by unfold Addr.add at hs; split at hs <;> simp_all
    subst hsp
    rw [Addr.add_lit] at hb
    exact ⟨bl, off, cap, rfl, hb, fun j u hj => by have := hc j u hj; rwa [Addr.add_lit] at this⟩
theorem Sl.at (h : Sl w e k v n xs) (hn : 0 < n) : ∃ g off cap cur, v = .slice (some ⟨g, off, none⟩) n cap ∧ w.heap[g]? = some (.cells cur e (0, 0)) ∧ off + n * k ≤ cur.size ∧ ∀ j u, xs[j]? = some u → cur[off + j]? = some u := by
  obtain ⟨hl, ⟨rfl, rfl⟩ | ⟨g, off, cap, cur, rfl, hg, hnc, hm, hs, hc⟩⟩ := h
  · omega
  · exact ⟨g, off, cap, cur, rfl, hg, by have := Nat.mul_le_mul_right k hnc; omega, hc⟩
theorem heap_setCells_same : ∀ (vs : List Value) (o : Nat) (w : World) (b : Nat) (cur : Array Value) (T : TypeId) (fz : Nat × Nat), w.heap[b]? = some (.cells cur T fz) →
    ∃ cur', (w.setCells b o vs).heap[b]? = some (.cells cur' T fz) ∧ cur'.size = cur.size ∧ ∀ i, cur'[i]? = if o ≤ i ∧ i < o + vs.length ∧ i < cur.size then vs[i - o]? else cur[i]? := by
  intro vs
  induction vs with
  | nil => intro o w b cur T fz h; exact ⟨cur, h, rfl, fun i => by rw [if_neg (by simp; omega)]⟩
  | cons v vs ih =>
    intro o w b cur T fz h
    have h1 := heap_setCell_same h o v
    obtain ⟨cur', h2, h3, h4⟩ := ih (o + 1) (w.setCell ⟨b, o, none⟩ v) b _ T fz h1
    refine ⟨cur', h2, by simpa using h3, fun i => ?_⟩
    rw [h4]
    by_cases hi : o = i
    · subst hi
      rw [if_neg (by omega)]
      by_cases hs : o < cur.size
      · rw [if_pos ⟨by omega, by simp, hs⟩]; simp [hs]
      · rw [if_neg (by omega)]; simp [hs]
    · by_cases hr : o + 1 ≤ i ∧ i < o + 1 + vs.length ∧ i < cur.size
      · rw [if_pos (by simpa using hr), if_pos ⟨by omega, by simp; omega, hr.2.2⟩]
        have : i - o = (i - (o + 1)) + 1 := by omega
        rw [this, List.getElem?_cons_succ]
      · rw [if_neg (by simpa using hr), if_neg (by simp at hr ⊢; omega)]
        rw [Array.getElem?_setIfInBounds_ne hi]
theorem upd_setCells (S : Nat → Prop) (w : World) (b o : Nat) (vs : List Value) (hS : S b) : Upd S w (w.setCells b o vs) := by
  have : ∀ (vs : List Value) (o : Nat) (a w : World), Upd S a w → Upd S a (w.setCells b o vs) := by
    intro vs
    induction vs with
    | nil => intro o a w h; exact h
    | cons v vs ih => intro o a w h; exact ih _ _ _ (h.setCell ⟨b, o, none⟩ (fun _ => hS) v)
  exact this vs o w w (Upd.refl _ _)
theorem Upd.of_grown {S : Nat → Prop} {w w' : World} {row : Option Nat} (h : w.grownBy w' row) (hS : ∀ g, row = some g → g < w.heap.size → S g) : Upd S w w' :=
  ⟨h.os, h.tape, h.output, h.size, fun j hj hn => h.block j hj (fun e => hn (hS j e.symm hj))⟩
theorem Sl.of_own {base : Nat} (h : w.ownsRow base e k v n xs) : Sl w e k v n xs := by
  refine ⟨h.1, ?_⟩
  rcases h.2 with hn | ⟨g, cap, cur, rfl, hb, hg, hnc, hcm, hcs, ht⟩
  · exact .inl hn
  · refine .inr ⟨g, 0, cap, cur, rfl, hg, hnc, hcm, by omega, fun j u hu => ?_⟩
    rw [← ht, List.getElem?_take] at hu
    split at hu
    · simpa using hu
    · cases hu
def ownS (v : Value) : Nat → Prop := fun g => v.ownBlock = some g
def From (B : Nat) (v : Value) : Prop := ∀ g, v.ownBlock = some g → B ≤ g
theorem From.nil (B n c : Nat) : From B (.slice none n c) := fun g h => by cases h
theorem From.mono {B B' : Nat} {v : Value} (h : From B v) (hb : B' ≤ B) : From B' v := fun g hg => Nat.le_trans hb (h g hg)
theorem From.own {B : Nat} {v : Value} (h : From B v) : ∀ k, ownS v k → B ≤ k := h
def blockFrom (w : World) (v v' : Value) : Prop := v'.ownBlock = v.ownBlock ∨ ∃ g, v'.ownBlock = some g ∧ w.heap.size ≤ g
theorem wpList_append_sl {P : Program} {ops : Array Oper} {rest : List Oper} {o : Oper} {a : Act} {Q : Exit → Act → World → Prop} (hgd : o.guard = none) (s x : Operand) (t : TypeId)
    (ho : o.op = .call { callee := .builtin .append, args := #[s, x], argTypes := #[t, t] })
    (i : TypeInfo) (z : Value) (bytes : Nat) (ht : P.underlying t = some (.slice e)) (hi : P.info? e = some i) (hz : i.zero = some z)
    (hsize : i.size = k) (hby : i.bytes = bytes) (hzs : z.cells.size = k) (hsz : 0 < k)
    (hs : a.eval s = v) (hown : Sl w e k v n xs)
    (x' : Value) (m : Nat) (news : List Value) (hx : a.eval x = x') (hr : Rd w k x' m news) (h1 : ∀ u ∈ news, u.oneCell' = true)
    (h63 : n + m ≤ maxLen) (hbytes : (n + m) * bytes ≤ 140737488355328)
    (h : ∀ v' w', Sl w' e k v' (n + m) (xs ++ news) → Upd (ownS v) w w' → blockFrom w v v' → wpList P ops Q rest (a.put o.dst v') w') : wpList P ops Q (o :: rest) a w := by
  obtain ⟨hnl, hml, ao, xc, rfl, hx0, hxc⟩ := hr
  cases ao with
  | none =>
    have hm0 := hx0 rfl
    subst hm0
    obtain rfl : news = [] := List.eq_nil_of_length_eq_zero (by simpa using hnl)
    have hrun : (Builtin.append_ #[t, t] o.type #[v, .slice none 0 xc]).run P w = .ok v w := by
      obtain ⟨_, ⟨rfl, rfl⟩ | ⟨g, off, cap, cur, rfl, hg, hnc, hcm, hcs, hcell⟩⟩ := hown
      · simp [Builtin.append_, run_underlying ht, sizeOf, typeInfo, hi, Builtin.lenOf, Builtin.firstCells]
      · simp [Builtin.append_, run_underlying ht, sizeOf, typeInfo, hi, Builtin.lenOf, Builtin.firstCells, hnc, storeCells]
    refine wpList_plain hgd fun K hK' => ?_
    unfold Oper.wp
    simp [execOp, ho, resolve, invoke, builtin, hs, hx, hrun, Result.andThen]
    exact hK' _ _ (h v w (by simpa using hown) (Upd.refl _ _) (.inl rfl))
  | some ad =>
  have hac' := hxc ad rfl
  have hown' := hown
  obtain ⟨hl, ⟨rfl, rfl⟩ | ⟨g, off, cap, cur, rfl, hg, hnc, hcm, hcs, hcell⟩⟩ := hown
  · obtain rfl : xs = [] := List.eq_nil_of_length_eq_zero (by simpa using hl)
    by_cases hm0 : m = 0
    · subst hm0
      obtain rfl : news = [] := List.eq_nil_of_length_eq_zero (by simpa using hnl)
      have hrun : (Builtin.append_ #[t, t] o.type #[.slice none 0 0, .slice (some ad) 0 xc]).run P w = .ok (.slice none 0 0) w := by
        simp [Builtin.append_, run_underlying ht, sizeOf, typeInfo, hi, Builtin.lenOf, Builtin.firstCells, loadCells, loadCellsFrom]
      refine wpList_plain hgd fun K hK' => ?_
      unfold Oper.wp
      simp [execOp, ho, resolve, invoke, builtin, hs, hx, hrun, Result.andThen]
      exact hK' _ _ (h _ w (by simpa using hown') (Upd.refl _ _) (.inl rfl))
    · refine wpList_append_grows w hgd s x t ho e i z k bytes ht hi hz hsize hby hzs hsz none 0 0 [] hs (fun _ => ⟨rfl, rfl⟩) (by simp) (fun b hb => by cases hb) ad m xc news hx hnl hac' h1 (by omega) h63 hbytes ?_
      intro v' w' ho' hg'
      refine h v' w' (Sl.of_own ho') (Upd.of_grown hg' (fun g hg _ => by cases hg)) ?_
      rcases ho'.2 with ⟨rfl, h0⟩ | ⟨g', cap', cur', rfl, hb', _⟩
      · omega
      · exact .inr ⟨g', rfl, hb'⟩
  · refine wpList_append_arg w hgd s x t ho e i z k bytes ht hi hz hsize hby hzs hsz g off n cap xs hs hl (fun j u hj => by rw [cell_of_block hg]; exact hcell j u hj) ad m xc news hx hnl hac' h1 ?_ h63 hbytes ?_ ?_
    · intro hroom j hj
      have hj' : off + n * k + j < cur.size := by
        have := Nat.mul_le_mul_right k hroom
        rw [Nat.add_mul] at this
        omega
      exact ⟨by rw [cell_of_block hg]; simp [hj'], frozen_of_block hg _⟩
    · intro hroom
      obtain ⟨cur', h2, h3, h4⟩ := heap_setCells_same news (off + n * k) w g cur e (0, 0) hg
      have hm := Nat.mul_le_mul_right k hroom
      rw [Nat.add_mul] at hm
      refine h _ _ ⟨by rw [List.length_append, hl, hnl, Nat.add_mul], .inr ⟨g, off, cap, cur', rfl, h2, hroom, hcm, by omega, fun j u hj => ?_⟩⟩ (upd_setCells _ w g _ news rfl) (.inl rfl)
      rw [h4]
      by_cases hj1 : j < xs.length
      · rw [List.getElem?_append_left hj1] at hj
        rw [if_neg (by omega)]
        exact hcell j u hj
      · rw [List.getElem?_append_right (by omega)] at hj
        have hlt := (List.getElem?_eq_some_iff.1 hj).1
        rw [if_pos ⟨by omega, by omega, by omega⟩]
        have : off + j - (off + n * k) = j - xs.length := by omega
        rw [this]; exact hj
    · intro hfull v' w' ho' hg'
      refine h v' w' (Sl.of_own ho') (Upd.of_grown hg' (fun g hg _ => by cases hg)) ?_
      rcases ho'.2 with ⟨rfl, h0⟩ | ⟨g', cap', cur', rfl, hb', _⟩
      · omega
      · exact .inr ⟨g', rfl, hb'⟩
theorem Rd.fresh (w : World) (news : List Value) (e : TypeId) {k m : Nat} (c : Nat) (hl : news.length = m * k) (hm : m ≤ maxLen) : Rd (w.alloc (.cells news.toArray e)) k (.slice (some ⟨w.heap.size, 0, none⟩) m c) m news := by
  refine ⟨hl, hm, some ⟨w.heap.size, 0, none⟩, c, rfl, (fun h => by cases h), (fun b hb => ?_)⟩
  cases hb
  intro j u hj
  rw [Addr.add_lit, cell_of_block (heap_alloc_last _ _ rfl)]
  simpa using hj
theorem blockFrom.ge {w : World} {v v' : Value} (h : blockFrom w v v') {B : Nat} (hB : B ≤ w.heap.size) (hv : From B v) : From B v' := by
  intro g hg
  rcases h with h | ⟨g', h, hle⟩
  · exact hv g (by rw [← h]; exact hg)
  · rw [h] at hg; cases hg; omega
theorem wpList_append_one {P : Program} {ops : Array Oper} {rest : List Oper} {o : Oper} {a : Act} {Q : Exit → Act → World → Prop} (hgd : o.guard = none) (s x : Operand) (t : TypeId)
    (ho : o.op = .call { callee := .builtin .append, args := #[s, x], argTypes := #[t, t] })
    (i : TypeInfo) (z : Value) (bytes : Nat) (ht : P.underlying t = some (.slice e)) (hi : P.info? e = some i) (hz : i.zero = some z)
    (hsize : i.size = k) (hby : i.bytes = bytes) (hzs : z.cells.size = k) (hsz : 0 < k)
    (hs : a.eval s = v) (hown : Sl w e k v n xs) (news : List Value) (hx : a.eval x = .slice (some ⟨w.heap.size, 0, none⟩) 1 1) (hl : news.length = k) (h1 : ∀ u ∈ news, u.oneCell' = true)
    (h63 : n + 1 ≤ maxLen) (hbytes : (n + 1) * bytes ≤ 140737488355328)
    (h : ∀ v' w', Sl w' e k v' (n + 1) (xs ++ news) → Upd (ownS v) w w' → blockFrom w v v' → wpList P ops Q rest (a.put o.dst v') w') :
    wpList P ops Q (o :: rest) a (w.alloc (.cells news.toArray e)) := by
  refine wpList_append_sl hgd s x t ho i z bytes ht hi hz hsize hby hzs hsz hs (hown.keep ((Upd.refl (fun _ => False) w).alloc _) (fun _ _ h => h)) _ 1 news hx (Rd.fresh w news e 1 (by omega) (by unfold maxLen; omega)) h1 h63 hbytes ?_
  intro v' w' h2 h3 h4
  refine h v' w' h2 (Upd.new ((Upd.refl _ _).alloc _) h3 (fun i _ h => h)) ?_
  rcases h4 with h4 | ⟨g, h4, h5⟩
  · exact .inl h4
  · exact .inr ⟨g, h4, by simp at h5; omega⟩
theorem Rd.below {w w' : World} {k n : Nat} {v : Value} {xs : List Value} (h : Rd w k v n xs) (hb : Below w.heap.size w w') : Rd w' k v n xs := h.keep (Upd.of_below (S := fun _ => False) hb) (fun _ _ h => h)
theorem below_upd {B : Nat} {a w w' : World} {S : Nat → Prop} (h : Below B a w) (hu : Upd S w w') (hB : B ≤ a.heap.size) (hs : ∀ k, S k → B ≤ k) : Below B a w' :=
  ⟨hu.os.trans h.os, hu.tape.trans h.tape, hu.output.trans h.output, Nat.le_trans h.size hu.size, fun k hk => (hu.block k (by have := h.size; omega) (fun hS => by have := hs k hS; omega)).trans (h.block k hk)⟩
theorem below_drewN {B : Nat} {a w : World} (h : Below B a w) (n : Nat) : Below B a (w.drewN n) := ⟨h.os, h.tape, h.output, h.size, h.block⟩
def Dis (v u : Value) : Prop := ∀ g, v.ownBlock = some g → u.ownBlock = some g → False
theorem Dis.symm {v u : Value} (h : Dis v u) : Dis u v := fun g h1 h2 => h g h2 h1
theorem Dis.nil (n c : Nat) (u : Value) : Dis (.slice none n c) u := fun g h => by cases h
theorem Dis.from {w : World} {v v' u : Value} (h : Dis v u) (hb : blockFrom w v v') (hu : ∀ g, u.ownBlock = some g → g < w.heap.size) : Dis v' u := by
  intro g h1 h2
  rcases hb with hb | ⟨g', hb, hle⟩
  · exact h g (by rw [← hb]; exact h1) h2
  · rw [hb] at h1; cases h1; have := hu g h2; omega
theorem Sl.keep_dis {w w' : World} {e : TypeId} {k n : Nat} {v u : Value} {xs : List Value} (h : Sl w e k v n xs) (hd : Dis v u) (hu : Upd (ownS u) w w') : Sl w' e k v n xs :=
  h.keep hu (fun g hg hs => hd g hg hs)
theorem Sl.tail {w : World} {e : TypeId} {g off n cap : Nat} {x : Value} {xs : List Value} (h : Sl w e 1 (.slice (some ⟨g, off, none⟩) (n + 1) cap) (n + 1) (x :: xs)) :
    Sl w e 1 (.slice (some ⟨g, off + 1, none⟩) n (cap - 1)) n xs ∧ (cap = 1 → Sl w e 1 (.slice (some ⟨g, off, none⟩) n 0) n xs) ∧ 1 ≤ cap := by
  obtain ⟨hl, ⟨h1, _⟩ | ⟨g', off', cap', cur, h1, hg, hn, hm, hs, hc⟩⟩ := h
  · cases h1
  · cases h1
    simp at hl
    refine ⟨⟨by omega, .inr ⟨g, off + 1, cap - 1, cur, rfl, hg, by omega, by omega, by omega, fun j u hj => ?_⟩⟩, fun hcap => ⟨by omega, .inr ⟨g, off, 0, cur, rfl, hg, by omega, by omega, by omega, fun j u hj => ?_⟩⟩, by omega⟩
    · have := hc (j + 1) u (by simpa using hj)
      rw [← this]; congr 1; omega
    · have := (List.getElem?_eq_some_iff.1 hj).1; omega
theorem Sl.keep_ne {w w' : World} {e : TypeId} {k n : Nat} {v : Value} {xs : List Value} (h : Sl w e k v n xs) {b : Nat} (hu : Upd (fun j => j = b) w w') (hne : v.ownBlock ≠ some b) : Sl w' e k v n xs :=
  h.keep hu (fun g hg hs => hne (by rw [hg, hs]))
theorem upd_setCell (w : World) (b i : Nat) (u : Value) : Upd (fun j => j = b) w (w.setCell ⟨b, i, none⟩ u) := Upd.setCell (S := fun j => j = b) (Upd.refl _ w) ⟨b, i, none⟩ (fun _ => rfl) u
end
def ints (l : List Int) : List Value := l.map (.int .i64)
@[simp] theorem ints_nil : ints [] = [] := rfl
@[simp] theorem ints_cons (x : Int) (l : List Int) : ints (x :: l) = .int .i64 x :: ints l := rfl
@[simp] theorem ints_append (l m : List Int) : ints (l ++ m) = ints l ++ ints m := by simp [ints]
@[simp] theorem length_ints (l : List Int) : (ints l).length = l.length := by simp [ints]
theorem get_ints {l : List Int} {j : Nat} (h : j < l.length) : (ints l)[j]? = some (.int .i64 l[j]) := by simp [ints, h]
abbrev Bk := List UInt8
def bkC (x : Bk) : List Value := x.map Go.Extern.Stop.cell
def bkV (x : Bk) : Value := .agg (bkC x).toArray
def rowC (F : List Bk) : List Value := F.flatMap bkC
theorem bkC_len (x : Bk) : (bkC x).length = x.length := by simp [bkC]
theorem bkC_one (x : Bk) : ∀ v ∈ bkC x, v.oneCell' = true := by intro v hv; simp only [bkC, List.mem_map] at hv; obtain ⟨b, _, rfl⟩ := hv; rfl
def All64 (F : List Bk) : Prop := ∀ x ∈ F, x.length = 64
theorem rowC_len {F : List Bk} (h : All64 F) : (rowC F).length = F.length * 64 := by
  induction F with
  | nil => rfl
  | cons x F ih =>
    have h1 := h x (by simp)
    have h2 := ih (fun y hy => h y (by simp [hy]))
    simp only [rowC, List.flatMap_cons, List.length_append, bkC_len] at h2 ⊢
    rw [h1, List.length_cons]
    omega
theorem rowC_at {F : List Bk} (h : All64 F) {i : Nat} (hi : i < F.length) {j : Nat} (hj : j < 64) : (rowC F)[i * 64 + j]? = (bkC F[i])[j]? := by
  induction F generalizing i with
  | nil => simp at hi
  | cons x F ih =>
    have h1 := h x (by simp)
    cases i with
    | zero =>
      simp only [rowC, List.flatMap_cons, Nat.zero_mul, Nat.zero_add, List.getElem_cons_zero]
      rw [List.getElem?_append_left (by rw [bkC_len, h1]; exact hj)]
    | succ i =>
      simp only [rowC, List.flatMap_cons, List.getElem_cons_succ]
      rw [List.getElem?_append_right (by rw [bkC_len, h1]; omega), bkC_len, h1]
      have := ih (fun y hy => h y (by simp [hy])) (i := i) (by simpa using hi)
      rw [← this]
      congr 1
      omega
theorem All64.set {F : List Bk} (h : All64 F) (i : Nat) {x : Bk} (hx : x.length = 64) : All64 (F.set i x) := by
  intro y hy
  rcases List.mem_or_eq_of_mem_set hy with h1 | rfl
  · exact h y h1
  · exact hx
theorem row_range {w : World} {g off : Nat} {cur : Array Value} {e : TypeId} {F : List Bk} (hF : All64 F) (hg : w.heap[g]? = some (.cells cur e (0, 0))) (hc : ∀ j u, (rowC F)[j]? = some u → cur[off + j]? = some u) {i : Nat} (hi : i < F.length) :
    w.rangeAt g (off + i * 64) (bkC F[i]) := by
  intro j v hj
  have hj' := (List.getElem?_eq_some_iff.1 hj).1
  rw [bkC_len, hF _ (List.getElem_mem hi)] at hj'
  rw [cell_of_block hg, Nat.add_assoc]
  exact hc _ _ (by rw [rowC_at hF hi hj']; exact hj)
theorem row_there {w : World} {g off n : Nat} {cur : Array Value} {e : TypeId} (hg : w.heap[g]? = some (.cells cur e (0, 0))) {i : Nat} (hi : i < n) (hz : off + n * 64 ≤ cur.size) : w.there g (off + i * 64) 64 := by
  intro j hj
  rw [cell_of_block hg, frozen_of_block hg]
  exact ⟨by rw [Array.getElem?_eq_getElem (by omega)]; rfl, rfl⟩
theorem Sl.row_set {w : World} {e : TypeId} {g off cap : Nat} {F : List Bk} (hF : All64 F) (h : Sl w e 64 (.slice (some ⟨g, off, none⟩) F.length cap) F.length (rowC F)) {i : Nat} (_ : i < F.length) {x : Bk} (hx : x.length = 64) :
    Sl (w.setCells g (off + i * 64) (bkC x)) e 64 (.slice (some ⟨g, off, none⟩) (F.set i x).length cap) (F.set i x).length (rowC (F.set i x)) := by
  obtain ⟨hl, ⟨h1, _⟩ | ⟨g', off', cap', cur, h1, hg, hn, hm, hs, hc⟩⟩ := h
  · cases h1
  cases h1
  obtain ⟨cur', hb, hz, hget⟩ := heap_setCells_same (bkC x) (off + i * 64) w g cur e (0, 0) hg
  refine ⟨rowC_len (hF.set i hx), .inr ⟨g, off, cap, cur', rfl, hb, by simpa using hn, hm, by omega, fun j u hj => ?_⟩⟩
  have hj' := (List.getElem?_eq_some_iff.1 hj).1
  rw [rowC_len (hF.set i hx), List.length_set] at hj'
  have hdm : j = j / 64 * 64 + j % 64 := by omega
  have hjm : j % 64 < 64 := Nat.mod_lt _ (by omega)
  have hjd : j / 64 < F.length := by omega
  rw [hdm, rowC_at (hF.set i hx) (by rw [List.length_set]; exact hjd) hjm, List.getElem_set] at hj
  rw [hget, bkC_len, hx]
  by_cases hij : i = j / 64
  · rw [if_pos hij] at hj
    rw [if_pos ⟨by omega, by omega, by omega⟩, show off + j - (off + i * 64) = j % 64 by omega]
    exact hj
  · rw [if_neg hij] at hj
    rw [if_neg (by omega)]
    refine hc j u ?_
    rw [hdm, rowC_at hF hjd hjm]
    exact hj
theorem upd_row (w : World) (g o : Nat) (vs : List Value) : Upd (fun j => j = g) w (w.setCells g o vs) := upd_setCells _ w g o vs rfl
theorem alloc_set (w : World) (cs : Array Value) (t : TypeId) (i : Nat) (v : Value) : (w.alloc (.cells cs t)).setCell ⟨w.heap.size, i, none⟩ v = w.alloc (.cells (cs.setIfInBounds i v) t) := by
  simp only [World.setCell, World.alloc, World.mk.injEq, and_true]
  apply Array.ext_getElem?
  intro k
  rw [Array.getElem?_modify]
  by_cases hk : w.heap.size = k
  · subst hk; simp
  · rw [if_neg hk]
    by_cases hl : k < w.heap.size
    · rw [Array.getElem?_push_lt hl, Array.getElem?_push_lt hl]
    · rw [Array.getElem?_eq_none (by simp; omega), Array.getElem?_eq_none (by simp; omega)]
theorem alloc_setCells (w : World) (t : TypeId) : ∀ (vs : List Value) (cs : Array Value) (o : Nat), ∃ cs' : Array Value, (w.alloc (.cells cs t)).setCells w.heap.size o vs = w.alloc (.cells cs' t) ∧ cs'.size = cs.size ∧ ∀ k, cs'[k]? = if o ≤ k ∧ k < o + vs.length ∧ k < cs.size then vs[k - o]? else cs[k]?
  | [], cs, o => ⟨cs, rfl, rfl, fun k => by rw [if_neg (by simp; omega)]⟩
  | v :: vs, cs, o => by
    obtain ⟨cs', h1, h2, h3⟩ := alloc_setCells w t vs (cs.setIfInBounds o v) (o + 1)
    refine ⟨cs', ?_, by simpa using h2, fun k => ?_⟩
    · rw [World.setCells, alloc_set]; exact h1
    · rw [h3 k]
      by_cases hk : o = k
      · subst hk
        rw [if_neg (by omega)]
        by_cases hs : o < cs.size
        · rw [if_pos ⟨by omega, by simp, hs⟩]; simp [hs]
        · rw [if_neg (by omega)]; simp [hs]
      · by_cases hr : o + 1 ≤ k ∧ k < o + 1 + vs.length ∧ k < cs.size
        · rw [if_pos (by simpa using hr), if_pos ⟨by omega, by simp; omega, hr.2.2⟩]
          have : k - o = (k - (o + 1)) + 1 := by omega
          rw [this, List.getElem?_cons_succ]
        · rw [if_neg (by simpa using hr), if_neg (by simp at hr ⊢; omega), Array.getElem?_setIfInBounds_ne hk]
theorem alloc_store (w : World) (t : TypeId) (vs : List Value) (cs : Array Value) (h : cs.size = vs.length) : (w.alloc (.cells cs t)).setCells w.heap.size 0 vs = w.alloc (.cells vs.toArray t) := by
  obtain ⟨cs', h1, h2, h3⟩ := alloc_setCells w t vs cs 0
  rw [h1]
  have : cs' = vs.toArray := by
    apply Array.ext_getElem?
    intro k
    have e : vs.toArray[k]? = vs[k]? := by simp
    rw [h3 k, e]
    by_cases hk : k < vs.length
    · rw [if_pos ⟨by omega, by omega, by omega⟩]; rfl
    · rw [if_neg (by omega), Array.getElem?_eq_none (by omega), List.getElem?_eq_none (by omega)]
  rw [this]
theorem wpList_store_new {P : Program} {ops : Array Oper} {rest : List Oper} {op : Oper} {a : Act} {w : World} {Q : Exit → Act → World → Prop} (hgd : op.guard = none) (ty : TypeId) (x y : Operand) (ho : op.op = .store ty x y)
    (zs : Array Value) (t : TypeId) (vs : List Value) (hx : a.eval x = .pointer (some ⟨w.heap.size, 0, none⟩)) (hy : a.eval y = .agg vs.toArray) (hz : zs.size = vs.length)
    (hi : (P.info? ty).map (·.size) = some vs.length) (h1 : ∀ v ∈ vs, v.oneCell' = true)
    (h : wpList P ops Q rest (a.put op.dst undef) (w.alloc (.cells vs.toArray t))) : wpList P ops Q (op :: rest) a (w.alloc (.cells zs t)) := by
  refine wpList_store_mid hgd ty x y ho w.heap.size 0 vs.toArray hx hy (fun j hj => ?_) (by simpa using hi) (all_oneCell_toArray h1) ?_
  · rw [cell_of_block (heap_alloc_last w _ rfl), frozen_of_block (heap_alloc_last w _ rfl)]
    simp at hj
    exact ⟨by rw [Nat.zero_add, Array.getElem?_eq_getElem (by omega)]; rfl, rfl⟩
  · rw [List.toList_toArray, alloc_store w t vs zs hz]; exact h
theorem results_mid2 {P : Program} {fn : Func} {p u : Tmp} {ty : TypeId} (h : fn.results = #[.cell p ty, .tmp u]) (tmps : Array Value) (w : World) (b o : Nat) (cs : List Value) (d : TypeDesc)
    (hp : tmps.getD p undef = .pointer (some ⟨b, o, none⟩)) (hc : w.rangeAt b o cs) (hu : P.underlying ty = some d) (hd : d.isRow = true) (hi : (P.info? ty).map (·.size) = some cs.length) :
    (results fn tmps).run P w = .ok (.tuple #[.agg cs.toArray, tmps.getD u undef]) w := by
  have hp' : tmps[p]?.getD undef = .pointer (some ⟨b, o, none⟩) := by simpa using hp
  rw [results_cell_tmp h]
  simp [hp', asAddr, run_loadVar_mid w b o ty cs d hc hu hd hi, Result.andThen]
theorem results_mid1 {P : Program} {fn : Func} {p : Tmp} {ty : TypeId} (h : fn.results = #[.cell p ty]) (tmps : Array Value) (w : World) (b o : Nat) (cs : List Value) (d : TypeDesc)
    (hp : tmps.getD p undef = .pointer (some ⟨b, o, none⟩)) (hc : w.rangeAt b o cs) (hu : P.underlying ty = some d) (hd : d.isRow = true) (hi : (P.info? ty).map (·.size) = some cs.length) :
    (results fn tmps).run P w = .ok (.agg cs.toArray) w := by
  have hp' : tmps[p]?.getD undef = .pointer (some ⟨b, o, none⟩) := by simpa using hp
  simp [results, h, hp', asAddr, run_loadVar_mid w b o ty cs d hc hu hd hi]
theorem range_of_block {w : World} {g : Nat} {cs : List Value} {t : TypeId} {fz : Nat × Nat} (h : w.heap[g]? = some (.cells cs.toArray t fz)) : w.rangeAt g 0 cs := fun j v hv => by
  rw [cell_of_block h, Nat.zero_add]; simpa using hv
def opC (O : List (Nat × Bk)) : List Value := O.flatMap fun p => .int .i64 (p.1 : Int) :: bkC p.2
structure DvGood (F : List Bk) (O : List (Nat × Bk)) (P : List Int) : Prop where
  f64 : All64 F
  o64 : ∀ p ∈ O, p.2.length = 64 ∧ p.1 < F.length
  f1 : 1 ≤ F.length
  fl : F.length ≤ 4096
  ol : O.length ≤ 65536
  pl : P.length ≤ 65536
structure DvAt (w : World) (b : Nat) (vf vo vp : Value) (F : List Bk) (O : List (Nat × Bk)) (P : List Int) : Prop where
  str : w.heap[b]? = some (.cells #[vf, vo, vp] 123 (0, 0))
  fs : Sl w 54 64 vf F.length (rowC F)
  os : Sl w 131 65 vo O.length (opC O)
  ps : Sl w 3 1 vp P.length (ints P)
  good : DvGood F O P
  fb : vf.ownBlock ≠ some b
  ob : vo.ownBlock ≠ some b
  pb : vp.ownBlock ≠ some b
  fo : Dis vf vo
  fp : Dis vf vp
  op : Dis vo vp
def dvS (b : Nat) (vf vo vp : Value) : Nat → Prop := fun j => j = b ∨ vf.ownBlock = some j ∨ vo.ownBlock = some j ∨ vp.ownBlock = some j
section
variable {w w' w2 : World} {b : Nat} {vf vo vp v2 : Value} {F F' : List Bk} {O O' : List (Nat × Bk)} {P P' : List Int}
theorem DvAt.keep (h : DvAt w b vf vo vp F O P) {S : Nat → Prop} (hu : Upd S w w') (hs : ∀ j, dvS b vf vo vp j → ¬ S j) : DvAt w' b vf vo vp F O P :=
  { h with
    str := (hu.block _ (lt_of_block h.str) (hs b (.inl rfl))).trans h.str
    fs := h.fs.keep hu (fun g hg => hs g (.inr (.inl hg)))
    os := h.os.keep hu (fun g hg => hs g (.inr (.inr (.inl hg))))
    ps := h.ps.keep hu (fun g hg => hs g (.inr (.inr (.inr hg)))) }
theorem DvAt.new (h : DvAt w b vf vo vp F O P) (hu : Upd (fun _ => False) w w') : DvAt w' b vf vo vp F O P := h.keep hu (fun _ _ h => h)
theorem DvAt.blt (h : DvAt w b vf vo vp F O P) : b < w.heap.size := lt_of_block h.str
theorem DvAt.slt (h : DvAt w b vf vo vp F O P) : ∀ j, dvS b vf vo vp j → j < w.heap.size := by
  rintro j (rfl | hj | hj | hj)
  · exact h.blt
  · exact h.fs.lt hj
  · exact h.os.lt hj
  · exact h.ps.lt hj
theorem DvAt.c (h : DvAt w b vf vo vp F O P) : w.cell? ⟨b, 0, none⟩ = some vf ∧ w.cell? ⟨b, 1, none⟩ = some vo ∧ w.cell? ⟨b, 2, none⟩ = some vp := by
  refine ⟨?_, ?_, ?_⟩ <;> rw [cell_of_block h.str] <;> rfl
theorem DvAt.fz (h : DvAt w b vf vo vp F O P) (i : Nat) : w.frozen? ⟨b, i, none⟩ = false := frozen_of_block h.str i
end
def Dv (S : Nat → Prop) (w : World) (b : Nat) (F : List Bk) (O : List (Nat × Bk)) (P : List Int) : Prop :=
  ∃ vf vo vp, DvAt w b vf vo vp F O P ∧ ∀ j, dvS b vf vo vp j → S j
section
variable {S : Nat → Prop} {w w' : World} {b : Nat} {F : List Bk} {O : List (Nat × Bk)} {P : List Int}
theorem Dv.keep (h : Dv S w b F O P) {T : Nat → Prop} (hu : Upd T w w') (hs : ∀ j, S j → ¬ T j) : Dv S w' b F O P := by
  obtain ⟨vf, vo, vp, h, hS⟩ := h
  exact ⟨vf, vo, vp, h.keep hu (fun j hj => hs j (hS j hj)), hS⟩
theorem Dv.new (h : Dv S w b F O P) (hu : Upd (fun _ => False) w w') : Dv S w' b F O P := h.keep hu (fun _ _ h => h)
theorem Dv.out (h : Dv S w b F O P) {S' : Nat → Prop} (hs : ∀ j, j < w.heap.size → S j → S' j) : Dv S' w b F O P := by
  obtain ⟨vf, vo, vp, h, hS⟩ := h
  exact ⟨vf, vo, vp, h, fun j hj => hs j (h.slt j hj) (hS j hj)⟩
theorem Dv.good (h : Dv S w b F O P) : DvGood F O P := by obtain ⟨vf, vo, vp, h, -⟩ := h; exact h.good
end
def hasC (n : Nat) (s : Int) : Int := if s < 0 ∨ (n : Int) ≤ s then 10 else 0
theorem dsize {S : Nat → Prop} {w : World} {b : Nat} {F : List Bk} {O : List (Nat × Bk)} {P : List Int} (h : Dv S w b F O P) :
    Calls Tryz.prog 47 #[.pointer (some ⟨b, 0, none⟩)] w fun e w' => e = .returned (.int .i64 F.length) ∧ w' = w := by
  obtain ⟨vf, vo, vp, h, -⟩ := h
  obtain ⟨g0, -, -⟩ := h.c
  obtain ⟨ao, c, rfl⟩ := h.fs.rd.nil_iff
  clear h
  go_enter Tryz.func47, Tryz.ntmps47
  go_wp2
  go_ret
  exact ⟨rfl, rfl⟩
theorem dopen {S : Nat → Prop} {w : World} {b : Nat} {F : List Bk} {O : List (Nat × Bk)} {P : List Int} (h : Dv S w b F O P) :
    Calls Tryz.prog 20 #[.pointer (some ⟨b, 0, none⟩)] w fun e w' => e = .returned (.int .i64 O.length) ∧ w' = w := by
  obtain ⟨vf, vo, vp, h, -⟩ := h
  obtain ⟨-, g1, -⟩ := h.c
  obtain ⟨ao, c, rfl⟩ := h.os.rd.nil_iff
  clear h
  go_enter Tryz.func20, Tryz.ntmps20
  go_wp2
  go_ret
  exact ⟨rfl, rfl⟩
theorem dhas {S : Nat → Prop} {w : World} {b : Nat} {F : List Bk} {O : List (Nat × Bk)} {P : List Int} (h : Dv S w b F O P) (s : Int) :
    Calls Tryz.prog 62 #[.pointer (some ⟨b, 0, none⟩), .int .i64 s] w fun e w' => e = .returned (.int .i64 (hasC F.length s)) ∧ w' = w := by
  obtain ⟨vf, vo, vp, h, -⟩ := h
  obtain ⟨g0, -, -⟩ := h.c
  have hl := h.good.fl
  obtain ⟨ao, c, rfl⟩ := h.fs.rd.nil_iff
  clear h
  by_cases h1 : s < 0
  · have e1 : hasC F.length s = 10 := if_pos (.inl h1)
    rw [e1]
    clear e1
    go_enter Tryz.func62, Tryz.ntmps62
    go_wp2
    go_ret
    exact ⟨rfl, rfl⟩
  · by_cases h2 : (F.length : Int) ≤ s
    · have e1 : hasC F.length s = 10 := if_pos (.inr h2)
      rw [e1]
      clear e1
      go_enter Tryz.func62, Tryz.ntmps62
      go_wp2
      go_ret
      exact ⟨rfl, rfl⟩
    · have e1 : hasC F.length s = 0 := if_neg (fun h => h.elim h1 h2)
      rw [e1]
      clear e1
      go_enter Tryz.func62, Tryz.ntmps62
      go_wp2
      go_ret
      exact ⟨rfl, rfl⟩
/-! ### a new device -/
def zB : Bk := List.replicate 64 0
theorem zB_len : zB.length = 64 := by simp [zB]
theorem infoBk : (Tryz.prog.info? 54).map (fun i => (i.zero, i.size, i.bytes)) = some (some (bkV zB), 64, 64) := by kernel_rfl
theorem rowC_rep (n : Nat) (x : Bk) (hx : x.length = 64) (j : Nat) (hj : j < n * 64) : (rowC (List.replicate n x))[j]? = (bkC x)[j % 64]? := by
  have h64 : All64 (List.replicate n x) := fun y hy => by rw [(List.mem_replicate.1 hy).2]; exact hx
  have hd : j / 64 < (List.replicate n x).length := by rw [List.length_replicate]; omega
  have := rowC_at h64 hd (j := j % 64) (Nat.mod_lt _ (by omega))
  rw [show j / 64 * 64 + j % 64 = j by omega] at this
  rw [this]
  simp
set_option maxRecDepth 100000 in
theorem dnew_ok (n : Nat) (h1 : 1 ≤ n) (h2 : n ≤ 4096) (w : World) :
    Calls Tryz.prog 15 #[.int .i64 n] w fun e w' => ∃ b, e = .returned (.tuple #[.pointer (some ⟨b, 0, none⟩), .int .i64 0]) ∧
      Dv (fun j => w.heap.size ≤ j) w' b (List.replicate n zB) [] [] ∧ w.heap.size ≤ b ∧ Below w.heap.size w w' := by
  obtain ⟨i, hi, hz0, hz1, hz2⟩ := info_parts infoBk
  have hmk := run_make (P := Tryz.prog) w 41 54 i (bkV zB) Tryz.underlying41 hi hz0 .i64 .i64 n n (by omega) (Int.le_refl _) (by rw [hz2]; omega) (by omega)
  rw [Int.toNat_natCast, hz1] at hmk
  have q1 : ¬ ((n : Int) < 1) := by omega
  have q2 : ¬ ((4096 : Int) < n) := by omega
  obtain ⟨C, hC⟩ : ∃ C : Array Value, C = madeCells (bkV zB).cells (n * 64) := ⟨_, rfl⟩
  rw [← hC] at hmk
  have HC : Hid (C.size = n * 64 ∧ ∀ (j : Nat) (u : Value), (rowC (List.replicate n zB))[j]? = some u → C[j]? = some u) := by
    refine ⟨by rw [hC, size_madeCells], fun j u hj => ?_⟩
    have h64 : All64 (List.replicate n zB) := fun y hy => by rw [(List.mem_replicate.1 hy).2]; exact zB_len
    have hj' := (List.getElem?_eq_some_iff.1 hj).1
    rw [rowC_len h64, List.length_replicate] at hj'
    rw [rowC_rep n zB zB_len j hj'] at hj
    have hcs : (bkV zB).cells = (bkC zB).toArray := rfl
    have hsz : (bkC zB).length = 64 := by rw [bkC_len, zB_len]
    rw [hC]
    simp only [madeCells, Array.getElem?_map, Array.getElem?_range, hj', if_true, Option.map_some, hcs, List.size_toArray, hsz]
    rw [getElem!_def]
    simp only [List.getElem?_toArray, hj]
  clear hC hz0 hz1 hz2 hi
  go_enter Tryz.func15, Tryz.ntmps15
  go_wp2
  go_ret2
  have hz : (w.alloc (.cells C 54)).heap.size = w.heap.size + 1 := by simp
  have h64 : All64 (List.replicate n zB) := fun y hy => by rw [(List.mem_replicate.1 hy).2]; exact zB_len
  have hln : (List.replicate n zB).length = n := List.length_replicate
  refine ⟨w.heap.size + 1, rfl, ⟨.slice (some ⟨w.heap.size, 0, none⟩) n n, .slice none 0 0, .slice none 0 0, ⟨heap_alloc_last _ _ hz.symm, ?_, Sl.nil _ _ _, Sl.nil _ _ _, ⟨h64, by simp, by omega, by omega, by simp, by simp⟩, by simp [Value.ownBlock], by simp [Value.ownBlock], by simp [Value.ownBlock], (Dis.nil _ _ _).symm, (Dis.nil _ _ _).symm, Dis.nil _ _ _⟩, ?_⟩, by omega, (((Below.refl _ w).alloc (Nat.le_refl _) _).alloc (by simp) _)⟩
  · rw [hln]
    refine Sl.keep (w := w.alloc (.cells C 54)) ⟨by rw [rowC_len h64, hln], .inr ⟨w.heap.size, 0, n, C, rfl, heap_alloc_last w _ rfl, Nat.le_refl _, by unfold maxLen; omega, by rw [HC.out.1]; omega, fun j u hj => by rw [Nat.zero_add]; exact HC.out.2 j u hj⟩⟩ (Upd.alloc (Upd.refl (fun _ => False) _) _) (fun _ _ h => h)
  · rintro j (rfl | hj | hj | hj)
    · omega
    · simp [Value.ownBlock] at hj; omega
    · cases hj
    · cases hj
/-! ### a row is laid anew -/
section
variable {w w' w2 : World} {b : Nat} {vf vo vp v2 : Value} {F F' : List Bk} {O O' : List (Nat × Bk)} {P P' : List Int}
theorem from_ne {w : World} {v v' : Value} {x : Nat} (h : blockFrom w v v') (hv : v.ownBlock ≠ some x) (hx : x < w.heap.size) : v'.ownBlock ≠ some x := by
  intro e
  rcases h with h | ⟨g, h, hg⟩
  · exact hv (by rw [← h, e])
  · rw [h] at e; cases e; omega
theorem DvAt.setPlan (h : DvAt w b vf vo vp F O P) (hu : Upd (ownS vp) w w2) (h2 : Sl w2 3 1 v2 P'.length (ints P')) (hbf : blockFrom w vp v2) (hg : DvGood F O P') : DvAt (w2.setCell ⟨b, 2, none⟩ v2) b vf vo v2 F O P' :=
  have hne := from_ne hbf h.pb h.blt
  have hstr : w2.heap[b]? = _ := (hu.block b h.blt (fun e => h.pb e)).trans h.str
  { str := heap_setCell_same hstr 2 v2
    fs := (h.fs.keep_dis h.fp hu).keep_ne (upd_setCell _ _ _ _) h.fb
    os := (h.os.keep_dis h.op hu).keep_ne (upd_setCell _ _ _ _) h.ob
    ps := h2.keep_ne (upd_setCell _ _ _ _) hne
    good := hg
    fb := h.fb
    ob := h.ob
    pb := hne
    fo := h.fo
    fp := (h.fp.symm.from hbf (fun _g hg => h.fs.lt hg)).symm
    op := (h.op.symm.from hbf (fun _g hg => h.os.lt hg)).symm }
theorem DvAt.setOpen (h : DvAt w b vf vo vp F O P) (hu : Upd (ownS vo) w w2) (h2 : Sl w2 131 65 v2 O'.length (opC O')) (hbf : blockFrom w vo v2) (hg : DvGood F O' P) : DvAt (w2.setCell ⟨b, 1, none⟩ v2) b vf v2 vp F O' P :=
  have hne := from_ne hbf h.ob h.blt
  have hstr : w2.heap[b]? = _ := (hu.block b h.blt (fun e => h.ob e)).trans h.str
  { str := heap_setCell_same hstr 1 v2
    fs := (h.fs.keep_dis h.fo hu).keep_ne (upd_setCell _ _ _ _) h.fb
    os := h2.keep_ne (upd_setCell _ _ _ _) hne
    ps := (h.ps.keep_dis h.op.symm hu).keep_ne (upd_setCell _ _ _ _) h.pb
    good := hg
    fb := h.fb
    ob := hne
    pb := h.pb
    fo := (h.fo.symm.from hbf (fun _g hg => h.fs.lt hg)).symm
    fp := h.fp
    op := h.op.from hbf (fun _g hg => h.ps.lt hg) }
end
theorem DvGood.tail {F : List Bk} {O : List (Nat × Bk)} {P : List Int} (h : DvGood F O P) : DvGood F O P.tail := { h with pl := by rw [List.length_tail]; have := h.pl; omega }
/-! ### the fate of a call -/
def fate (P : List Int) : Int := P.headD 0
set_option maxRecDepth 100000 in
theorem dtake {S : Nat → Prop} {w : World} {b g : Nat} {F : List Bk} {O : List (Nat × Bk)} {P : List Int} (h : Dv S w b F O P) (hg : w.cell? ⟨g, 0, none⟩ = some (.pointer (some ⟨b, 0, none⟩))) :
    Calls Tryz.prog 121 #[.pointer (some ⟨g, 0, none⟩)] w fun e w' => e = .returned (.int .i64 (fate P)) ∧ Dv S w' b F O P.tail ∧ Upd (fun j => j = b) w w' := by
  obtain ⟨vf, vo, vp, h, hS⟩ := h
  have H := Lib.hid (And.intro h hS)
  obtain ⟨-, -, g2⟩ := h.c
  have f2 := h.fz 2
  cases P with
  | nil =>
    obtain ⟨ao, c, rfl⟩ := h.ps.rd.nil_iff
    clear h hS
    go_enter Tryz.func121, Tryz.ntmps121
    go_wp2
    go_ret
    exact ⟨rfl, ⟨vf, vo, _, H.out.1, H.out.2⟩, Upd.refl _ _⟩
  | cons p P =>
    obtain ⟨gp, op, cp, cur, rfl, hgp, hzp, hcp⟩ := h.ps.at (by simp)
    have x0 := (cell_of_block hgp op).trans (hcp 0 (.int .i64 p) rfl)
    have hpl := h.good.pl
    have ht := Sl.tail (h.ps : Sl w 3 1 (.slice (some ⟨gp, op, none⟩) (P.length + 1) cp) (P.length + 1) (.int .i64 p :: ints P))
    have HT := Lib.hid ht
    have hgd : Hid (DvGood F O P) := h.good.tail
    clear h hS hcp hzp ht
    by_cases hc1 : cp = 1
    · have hDv : Hid (Dv S (w.setCell ⟨b, 2, none⟩ (.slice (some ⟨gp, op, none⟩) P.length 0)).drew b F O P) :=
        Dv.new ⟨vf, vo, _, H.out.1.setPlan (Upd.refl _ _) (HT.out.2.1 hc1) (.inl rfl) hgd.out, H.out.2⟩ ((Upd.refl _ _).drew)
      have hU : Hid (Upd (fun j => j = b) w (w.setCell ⟨b, 2, none⟩ (.slice (some ⟨gp, op, none⟩) P.length 0)).drew) := (upd_setCell _ _ _ _).drew
      subst hc1
      go_enter Tryz.func121, Tryz.ntmps121
      go_wp2
      go_region
      go_wp2
      go_ret
      exact ⟨rfl, hDv.out, hU.out⟩
    · have hDv : Hid (Dv S (w.setCell ⟨b, 2, none⟩ (.slice (some ⟨gp, op + 1, none⟩) P.length (cp - 1))).drew b F O P) :=
        Dv.new ⟨vf, vo, _, H.out.1.setPlan (Upd.refl _ _) HT.out.1 (.inl rfl) hgd.out, H.out.2⟩ ((Upd.refl _ _).drew)
      have hU : Hid (Upd (fun j => j = b) w (w.setCell ⟨b, 2, none⟩ (.slice (some ⟨gp, op + 1, none⟩) P.length (cp - 1))).drew) := (upd_setCell _ _ _ _).drew
      go_enter Tryz.func121, Tryz.ntmps121
      go_wp2
      go_region
      go_wp2
      go_ret
      exact ⟨rfl, hDv.out, hU.out⟩
end Go.Proofs.YtfhfbpmlnjdfoaaGreatDoor
