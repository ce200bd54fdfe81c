/- Words on worlds: what a call may have turned ('Upd S w w''), and facts on blocks. Slices that a call made for itself, at any offset: 'Sl w e k v n xs': v has n elements of type e (k cells each), and these are the cells xs. Rows of ints, as cells. 'Ints': are two lists the same. What every law's row asks behind the call, out of 'it returned true, and nothing that was there has turned'. The plain law of places: which block is at a slot. Maps from ints to ints, in memory, as functions. -/
import Derived.WalkKit
import Derived.ProofKit
import Derived.OpenShut
import Derived.Handy
import Derived.Deep.QuietTactic
import Derived.BigQuiet
import Derived.StillTailTactics
import Derived.Lib.Hide
import Derived.Deep.LoopGhost
import Derived.Deep.DeepCutAuto
import Derived.Deep.RegionHeld3
import Derived.Deep.MidRow
import Derived.Deep.RegionWith
import Derived.WalkSpells
import Derived.WalkMore
import Derived.Test.YtfhfbpmlnjdfoaaGreatDoorProg
import Derived.Deep.Slices
import Derived.Lib.SmallJoins
import Derived.Deep.Strs
import Derived.Maps.Views
import Derived.Maps.OwnSet
import Derived.MapKept
namespace Go.Proofs.YtfhfbpmlnjdfoaaGreatDoor
open Go Go.RowKit
structure Upd (S : Nat → Prop) (w w' : World) : Prop where
  os : w'.os = w.os
  tape : w'.tape = w.tape
  output : w'.output = w.output
  size : w.heap.size ≤ w'.heap.size
  block : ∀ k, k < w.heap.size → ¬ S k → w'.heap[k]? = w.heap[k]?
namespace Upd
theorem refl (S : Nat → Prop) (w : World) : Upd S w w := ⟨rfl, rfl, rfl, Nat.le_refl _, fun _ _ _ => rfl⟩
theorem trans {S : Nat → Prop} {a b c : World} (h : Upd S a b) (k : Upd S b c) : Upd S a c :=
  ⟨k.os.trans h.os, k.tape.trans h.tape, k.output.trans h.output, Nat.le_trans h.size k.size,
   fun i hi hs => (k.block i (Nat.lt_of_lt_of_le hi h.size) hs).trans (h.block i hi hs)⟩
theorem mono {S S' : Nat → Prop} {a b : World} (h : Upd S a b) (hs : ∀ k, k < a.heap.size → S k → S' k) : Upd S' a b :=
  ⟨h.os, h.tape, h.output, h.size, fun i hi hn => h.block i hi fun hS => hn (hs i hi hS)⟩
theorem drew {S : Nat → Prop} {a w : World} (h : Upd S a w) : Upd S a w.drew := ⟨h.os, h.tape, h.output, h.size, h.block⟩
theorem drewN {S : Nat → Prop} {a w : World} (h : Upd S a w) (n : Nat) : Upd S a (w.drewN n) := ⟨h.os, h.tape, h.output, h.size, h.block⟩
theorem alloc {S : Nat → Prop} {a w : World} (h : Upd S a w) (o : Obj) : Upd S a (w.alloc o) :=
  h.trans ⟨rfl, rfl, rfl, by simp, fun k hk _ => Below.heap_alloc _ _ _ hk⟩
theorem setCell {S : Nat → Prop} {a w : World} (h : Upd S a w) (p : Addr) (hp : p.block < a.heap.size → S p.block) (u : Value) : Upd S a (w.setCell p u) :=
  ⟨h.os, h.tape, h.output, by simpa using h.size, fun k hk hs => by
    rw [Below.heap_setCell]
    · exact h.block k hk hs
    · rintro rfl; exact hs (hp hk)⟩
theorem below {a w : World} (h : Upd (fun _ => False) a w) : Below a.heap.size a w :=
  ⟨h.os, h.tape, h.output, h.size, fun k hk => h.block k hk (fun h => h)⟩
theorem of_below {S : Nat → Prop} {a w : World} (h : Below a.heap.size a w) : Upd S a w :=
  ⟨h.os, h.tape, h.output, h.size, fun k hk _ => h.block k hk⟩
theorem new {S S' : Nat → Prop} {a w w' : World} (h : Upd S' a w) (k : Upd S w w') (hs : ∀ i, i < a.heap.size → S i → S' i) : Upd S' a w' :=
  ⟨k.os.trans h.os, k.tape.trans h.tape, k.output.trans h.output, Nat.le_trans h.size k.size,
   fun i hi hn => (k.block i (Nat.lt_of_lt_of_le hi h.size) fun hS => hn (hs i hi hS)).trans (h.block i hi hn)⟩
theorem cell {S : Nat → Prop} {w w' : World} (h : Upd S w w') {p : Addr} (hp : p.block < w.heap.size) (hs : ¬ S p.block) : w'.cell? p = w.cell? p :=
  World.cell?_of_block (w := w) (h.block p.block hp hs)
theorem frozen {S : Nat → Prop} {w w' : World} (h : Upd S w w') {p : Addr} (hp : p.block < w.heap.size) (hs : ¬ S p.block) : w'.frozen? p = w.frozen? p :=
  World.frozen?_of_block (w := w) (h.block p.block hp hs)
theorem cellAt {S : Nat → Prop} {w w' : World} (h : Upd S w w') {b o : Nat} (hp : b < w.heap.size) (hs : ¬ S b) : w'.cell? ⟨b, o, none⟩ = w.cell? ⟨b, o, none⟩ := h.cell (p := ⟨b, o, none⟩) hp hs
theorem lt {S : Nat → Prop} {w w' : World} (h : Upd S w w') {k : Nat} (hk : k < w.heap.size) : k < w'.heap.size := Nat.lt_of_lt_of_le hk h.size
end Upd
theorem lt_of_block {w : World} {b : Nat} {o : Obj} (h : w.heap[b]? = some o) : b < w.heap.size := (Array.getElem?_eq_some_iff.1 h).1
theorem cell_of_block {w : World} {b : Nat} {cs : Array Value} {T : TypeId} {fz : Nat × Nat} (h : w.heap[b]? = some (.cells cs T fz)) (i : Nat) : w.cell? ⟨b, i, none⟩ = cs[i]? := by
  simp [World.cell?, h]
theorem frozen_of_block {w : World} {b : Nat} {cs : Array Value} {T : TypeId} (h : w.heap[b]? = some (.cells cs T (0, 0))) (i : Nat) : w.frozen? ⟨b, i, none⟩ = false := by
  simp [World.frozen?, h]
theorem heap_setCell_same {w : World} {b : Nat} {cs : Array Value} {T : TypeId} {fz : Nat × Nat} (h : w.heap[b]? = some (.cells cs T fz)) (i : Nat) (u : Value) :
    (w.setCell ⟨b, i, none⟩ u).heap[b]? = some (.cells (cs.setIfInBounds i u) T fz) := by
  simp [World.setCell, Array.getElem?_modify, h]
theorem heap_alloc_last (w : World) (o : Obj) {n : Nat} (h : n = w.heap.size) : (w.alloc o).heap[n]? = some o := by
  subst h; show (w.heap.push o)[w.heap.size]? = _; simp
def Wl (_ : List Nat) (G : Prop) : Prop := G
namespace Wl
theorem i {G : Prop} (l : List Nat) (h : Wl l G) : G := h
theorem o {G : Prop} (h : G) : Wl [] G := h
section
variable {P : Program} {md : Region.Mode} {ops : Array Oper} {Q : Exit → Act → World → Prop} {S : World → Prop} {k : Nat} {oi : Oper} {v : Value} {fuel : Nat} {listed : Array Bool} {a a' : Act} {w : World} {ks : List Nat}
theorem t (hS : S w) (h : Wl ks (wpAnyH P md ops Q S fuel (listed.setIfInBounds k true) a' w)) (hi : ops[k]? = some oi := by rfl) (hs : Region.noSelect ops = true := by kernel_rfl) (hf : Region.free md ops listed k = true := by kernel_rfl)
    (hr : (Region.ready md ops listed).contains k = true := by kernel_rfl) (hQ : ∀ c a w, Q (.panic c) (a.put oi.dst v) w → Q (.panic c) a w := by exact fun _ _ _ h => h)
    (hy : YieldsIf P ops S oi v a := by first | (refine Or.inr ⟨?_, rfl⟩; rfl) | (refine Or.inl ⟨?_, ?_⟩; rfl; intro W hSw; (try dsimp only at hSw); (try go_split_ands); go_simp; (try with_reducible rfl)))
    (ha : a.put oi.dst v = a' := by simp only [List.getElem_toArray, List.getElem_cons_succ, List.getElem_cons_zero, Act.put, List.setIfInBounds_toArray, List.set_cons_zero, List.set_cons_succ]; rfl) : Wl (k :: ks) (wpAnyH P md ops Q S (fuel + 1) listed a w) :=
  wpAnyH_take hi hs hf hr hQ hy hS (ha ▸ h)
theorem l (k : Nat) {ty : TypeId} {x : Operand} {b o : Nat} {cs : List Value} {d : TypeDesc} (hS : ∀ w, S w → w.rangeAt b o cs) (hu : P.underlying ty = some d) (hz : (P.info? ty).map (·.size) = some cs.length) (hw : S w)
    (h : wpAnyH P md ops Q S fuel (listed.setIfInBounds k true) a' w) (hi : ops[k]? = some oi := by rfl) (hs : Region.noSelect ops = true := by kernel_rfl) (hf : Region.free md ops listed k = true := by kernel_rfl)
    (hr : (Region.ready md ops listed).contains k = true := by kernel_rfl) (hQ : ∀ c a w, Q (.panic c) (a.put oi.dst (.agg cs.toArray)) w → Q (.panic c) a w := by exact fun _ _ _ h => h)
    (hg : Region.wanted oi (yielded ops a.tmps) = true := by rfl) (ho : oi.op = .load ty x := by rfl) (hx : a.eval x = .pointer (some ⟨b, o, none⟩) := by rfl) (hd : d.isRow = true := by rfl)
    (ha : a.put oi.dst (.agg cs.toArray) = a' := by simp only [List.getElem_toArray, List.getElem_cons_succ, List.getElem_cons_zero, Act.put, List.setIfInBounds_toArray, List.set_cons_zero, List.set_cons_succ]; rfl) : wpAnyH P md ops Q S (fuel + 1) listed a w :=
  wpAnyH_take hi hs hf hr hQ (yieldsIf_load_mid hg ty x ho b o hx cs d hS hu hd hz) hw (ha ▸ h)
theorem r (k : Nat) (h : ∀ K' : Act → World → Prop, Shut (∀ a w, S w → (S w → wpAnyH P md ops Q S fuel (listed.setIfInBounds k true) a w) → K' a w) → if Region.wanted oi (yielded ops a.tmps) = true then Oper.wp P oi a w K' Q else K' (a.put oi.dst undef) w)
    (hi : ops[k]? = some oi := by rfl) (hr : Region.ready md ops listed = [k] := by kernel_rfl) : wpAnyH P md ops Q S (fuel + 1) listed a w :=
  wpAnyH_ready hr (by simp) (AllReadyH.cons hi h AllReadyH.nil)
theorem d (h : Q .normal a w) (hr : Region.ready md ops listed = [] := by kernel_rfl) : wpAnyH P md ops Q S fuel listed a w := wpAnyH_done hr h _
end
end Wl
def Sl (w : World) (e : TypeId) (k : Nat) (v : Value) (n : Nat) (xs : List Value) : Prop :=
  xs.length = n * k ∧ ((v = .slice none 0 0 ∧ n = 0) ∨
    ∃ g off cap cur, v = .slice (some ⟨g, off, none⟩) n cap ∧ w.heap[g]? = some (.cells cur e (0, 0)) ∧ n ≤ cap ∧ cap ≤ maxLen ∧ off + cap * k ≤ cur.size ∧
      ∀ j u, xs[j]? = some u → cur[off + j]? = some u)
def Rd (w : World) (k : Nat) (v : Value) (n : Nat) (xs : List Value) : Prop :=
  xs.length = n * k ∧ n ≤ maxLen ∧ ∃ ao cap, v = .slice ao n cap ∧ (ao = none → n = 0) ∧ ∀ b, ao = some b → ∀ j u, xs[j]? = some u → w.cell? (b.add j) = some u
section
variable {w w' : World} {e : TypeId} {k n : Nat} {v : Value} {xs : List Value}
theorem Sl.nil (w : World) (e : TypeId) (k : Nat) : Sl w e k (.slice none 0 0) 0 [] := ⟨by simp, .inl ⟨rfl, rfl⟩⟩
theorem Sl.rd (h : Sl w e k v n xs) : Rd w k v n xs := by
  obtain ⟨hl, ⟨rfl, rfl⟩ | ⟨g, off, cap, cur, rfl, hg, hn, hm, hs, hc⟩⟩ := h
  · exact ⟨hl, Nat.zero_le _, none, 0, rfl, fun _ => rfl, fun b hb => by cases hb⟩
  · refine ⟨hl, Nat.le_trans hn hm, some ⟨g, off, none⟩, cap, rfl, (fun h => by cases h), (fun b hb => ?_)⟩
    cases hb
    intro j u hu
    rw [Addr.add_lit, cell_of_block hg]; exact hc j u hu
theorem Rd.le (h : Rd w k v n xs) : n ≤ maxLen := h.2.1
theorem Sl.lt (h : Sl w e k v n xs) {g : Nat} (hg : v.ownBlock = some g) : g < w.heap.size := by
  obtain ⟨_, ⟨rfl, rfl⟩ | ⟨g', off, cap, cur, rfl, hg', _⟩⟩ := h
  · simp [Value.ownBlock] at hg
  · simp [Value.ownBlock] at hg; subst hg; exact lt_of_block hg'
theorem Sl.keep (h : Sl w e k v n xs) {S : Nat → Prop} (hu : Upd S w w') (hs : ∀ g, v.ownBlock = some g → ¬ S g) : Sl w' e k v n xs := by
  refine ⟨h.1, ?_⟩
  rcases h.2 with hn | ⟨g, off, cap, cur, rfl, hg, rest⟩
  · exact .inl hn
  · exact .inr ⟨g, off, cap, cur, rfl, (hu.block g (lt_of_block hg) (hs g rfl)).trans hg, rest⟩
theorem addr_of_cell {w : World} {a : Addr} {u : Value} (h : w.cell? a = some u) : a.spot = none ∧ a.block < w.heap.size := by
  refine ⟨?_, World.block_lt_of_cell? w a h⟩
  unfold World.cell? at h
  split at h
  · split at h
    · cases h
    · rename_i hs; simpa using hs
  · cases h
theorem Rd.keep (h : Rd w k v n xs) {S : Nat → Prop} (hu : Upd S w w') (hs : ∀ g, v.ownBlock = some g → ¬ S g) : Rd w' k v n xs := by
  obtain ⟨hl, hm, ao, cap, rfl, h0, hc⟩ := h
  refine ⟨hl, hm, ao, cap, rfl, h0, fun b hb j u hj => ?_⟩
  have h1 := hc b hb j u hj
  have hblk : (b.add j).block = b.block := by unfold Addr.add; split <;> rfl
  subst hb
  rw [hu.cell (addr_of_cell h1).2 (by rw [hblk]; exact hs b.block rfl)]
  exact h1
theorem Rd.nil_iff (h : Rd w k v n xs) : ∃ ao cap, v = .slice ao n cap := by obtain ⟨_, _, ao, cap, rfl, _⟩ := h; exact ⟨ao, cap, rfl⟩
theorem Rd.at (h : Rd w k v n xs) (hn : 0 < n) (hk : 0 < k := by decide) : ∃ bl off cap, v = .slice (some ⟨bl, off, none⟩) n cap ∧ bl < w.heap.size ∧ ∀ j u, xs[j]? = some u → w.cell? ⟨bl, off + j, none⟩ = some u := by
  obtain ⟨hl, hm, ao, cap, rfl, h0, hc⟩ := h
  cases ao with
  | none => have := h0 rfl; omega
  | some b =>
    have hc := hc b rfl
    have hx : 0 < xs.length := by rw [hl]; exact Nat.mul_pos hn hk
    obtain ⟨hs, hb⟩ := addr_of_cell (hc 0 _ (List.getElem?_eq_getElem hx))
    obtain ⟨bl, off, sp⟩ := b
    have hsp : sp = none := by unfold Addr.add at hs; split at hs <;> simp_all
    subst hsp
    rw [Addr.add_lit] at hb
    exact ⟨bl, off, cap, rfl, hb, fun j u hj => by have := hc j u hj; rwa [Addr.add_lit] at this⟩
theorem Sl.at (h : Sl w e k v n xs) (hn : 0 < n) : ∃ g off cap cur, v = .slice (some ⟨g, off, none⟩) n cap ∧ w.heap[g]? = some (.cells cur e (0, 0)) ∧ off + n * k ≤ cur.size ∧ ∀ j u, xs[j]? = some u → cur[off + j]? = some u := by
  obtain ⟨hl, ⟨rfl, rfl⟩ | ⟨g, off, cap, cur, rfl, hg, hnc, hm, hs, hc⟩⟩ := h
  · omega
  · exact ⟨g, off, cap, cur, rfl, hg, by have := Nat.mul_le_mul_right k hnc; omega, hc⟩
theorem heap_setCells_same : ∀ (vs : List Value) (o : Nat) (w : World) (b : Nat) (cur : Array Value) (T : TypeId) (fz : Nat × Nat), w.heap[b]? = some (.cells cur T fz) →
    ∃ cur', (w.setCells b o vs).heap[b]? = some (.cells cur' T fz) ∧ cur'.size = cur.size ∧ ∀ i, cur'[i]? = if o ≤ i ∧ i < o + vs.length ∧ i < cur.size then vs[i - o]? else cur[i]? := by
  intro vs
  induction vs with
  | nil => intro o w b cur T fz h; exact ⟨cur, h, rfl, fun i => by rw [if_neg (by simp; omega)]⟩
  | cons v vs ih =>
    intro o w b cur T fz h
    have h1 := heap_setCell_same h o v
    obtain ⟨cur', h2, h3, h4⟩ := ih (o + 1) (w.setCell ⟨b, o, none⟩ v) b _ T fz h1
    refine ⟨cur', h2, by simpa using h3, fun i => ?_⟩
    rw [h4]
    by_cases hi : o = i
    · subst hi
      rw [if_neg (by omega)]
      by_cases hs : o < cur.size
      · rw [if_pos ⟨by omega, by simp, hs⟩]; simp [hs]
      · rw [if_neg (by omega)]; simp [hs]
    · by_cases hr : o + 1 ≤ i ∧ i < o + 1 + vs.length ∧ i < cur.size
      · rw [if_pos (by simpa using hr), if_pos ⟨by omega, by simp; omega, hr.2.2⟩]
        have : i - o = (i - (o + 1)) + 1 := by omega
        rw [this, List.getElem?_cons_succ]
      · rw [if_neg (by simpa using hr), if_neg (by simp at hr ⊢; omega)]
        rw [Array.getElem?_setIfInBounds_ne hi]
theorem upd_setCells (S : Nat → Prop) (w : World) (b o : Nat) (vs : List Value) (hS : S b) : Upd S w (w.setCells b o vs) := by
  have : ∀ (vs : List Value) (o : Nat) (a w : World), Upd S a w → Upd S a (w.setCells b o vs) := by
    intro vs
    induction vs with
    | nil => intro o a w h; exact h
    | cons v vs ih => intro o a w h; exact ih _ _ _ (h.setCell ⟨b, o, none⟩ (fun _ => hS) v)
  exact this vs o w w (Upd.refl _ _)
theorem Upd.of_grown {S : Nat → Prop} {w w' : World} {row : Option Nat} (h : w.grownBy w' row) (hS : ∀ g, row = some g → g < w.heap.size → S g) : Upd S w w' :=
  ⟨h.os, h.tape, h.output, h.size, fun j hj hn => h.block j hj (fun e => hn (hS j e.symm hj))⟩
theorem Sl.of_own {base : Nat} (h : w.ownsRow base e k v n xs) : Sl w e k v n xs := by
  refine ⟨h.1, ?_⟩
  rcases h.2 with hn | ⟨g, cap, cur, rfl, hb, hg, hnc, hcm, hcs, ht⟩
  · exact .inl hn
  · refine .inr ⟨g, 0, cap, cur, rfl, hg, hnc, hcm, by omega, fun j u hu => ?_⟩
    rw [← ht, List.getElem?_take] at hu
    split at hu
    · simpa using hu
    · cases hu
def ownS (v : Value) : Nat → Prop := fun g => v.ownBlock = some g
def From (B : Nat) (v : Value) : Prop := ∀ g, v.ownBlock = some g → B ≤ g
theorem From.nil (B n c : Nat) : From B (.slice none n c) := fun g h => by cases h
theorem From.mono {B B' : Nat} {v : Value} (h : From B v) (hb : B' ≤ B) : From B' v := fun g hg => Nat.le_trans hb (h g hg)
theorem From.own {B : Nat} {v : Value} (h : From B v) : ∀ k, ownS v k → B ≤ k := h
def blockFrom (w : World) (v v' : Value) : Prop := v'.ownBlock = v.ownBlock ∨ ∃ g, v'.ownBlock = some g ∧ w.heap.size ≤ g
theorem wpList_append_sl {P : Program} {ops : Array Oper} {rest : List Oper} {o : Oper} {a : Act} {Q : Exit → Act → World → Prop} (hgd : o.guard = none) (s x : Operand) (t : TypeId)
    (ho : o.op = .call { callee := .builtin .append, args := #[s, x], argTypes := #[t, t] })
    (i : TypeInfo) (z : Value) (bytes : Nat) (ht : P.underlying t = some (.slice e)) (hi : P.info? e = some i) (hz : i.zero = some z)
    (hsize : i.size = k) (hby : i.bytes = bytes) (hzs : z.cells.size = k) (hsz : 0 < k)
    (hs : a.eval s = v) (hown : Sl w e k v n xs)
    (x' : Value) (m : Nat) (news : List Value) (hx : a.eval x = x') (hr : Rd w k x' m news) (h1 : ∀ u ∈ news, u.oneCell' = true)
    (h63 : n + m ≤ maxLen) (hbytes : (n + m) * bytes ≤ 140737488355328)
    (h : ∀ v' w', Sl w' e k v' (n + m) (xs ++ news) → Upd (ownS v) w w' → blockFrom w v v' → wpList P ops Q rest (a.put o.dst v') w') : wpList P ops Q (o :: rest) a w := by
  obtain ⟨hnl, hml, ao, xc, rfl, hx0, hxc⟩ := hr
  cases ao with
  | none =>
    have hm0 := hx0 rfl
    subst hm0
    obtain rfl : news = [] := List.eq_nil_of_length_eq_zero (by simpa using hnl)
    have hrun : (Builtin.append_ #[t, t] o.type #[v, .slice none 0 xc]).run P w = .ok v w := by
      obtain ⟨_, ⟨rfl, rfl⟩ | ⟨g, off, cap, cur, rfl, hg, hnc, hcm, hcs, hcell⟩⟩ := hown
      · simp [Builtin.append_, run_underlying ht, sizeOf, typeInfo, hi, Builtin.lenOf, Builtin.firstCells]
      · simp [Builtin.append_, run_underlying ht, sizeOf, typeInfo, hi, Builtin.lenOf, Builtin.firstCells, hnc, storeCells]
    refine wpList_plain hgd fun K hK' => ?_
    unfold Oper.wp
    simp [execOp, ho, resolve, invoke, builtin, hs, hx, hrun, Result.andThen]
    exact hK' _ _ (h v w (by simpa using hown) (Upd.refl _ _) (.inl rfl))
  | some ad =>
  have hac' := hxc ad rfl
  have hown' := hown
  obtain ⟨hl, ⟨rfl, rfl⟩ | ⟨g, off, cap, cur, rfl, hg, hnc, hcm, hcs, hcell⟩⟩ := hown
  · obtain rfl : xs = [] := List.eq_nil_of_length_eq_zero (by simpa using hl)
    by_cases hm0 : m = 0
    · subst hm0
      obtain rfl : news = [] := List.eq_nil_of_length_eq_zero (by simpa using hnl)
      have hrun : (Builtin.append_ #[t, t] o.type #[.slice none 0 0, .slice (some ad) 0 xc]).run P w = .ok (.slice none 0 0) w := by
        simp [Builtin.append_, run_underlying ht, sizeOf, typeInfo, hi, Builtin.lenOf, Builtin.firstCells, loadCells, loadCellsFrom]
      refine wpList_plain hgd fun K hK' => ?_
      unfold Oper.wp
      simp [execOp, ho, resolve, invoke, builtin, hs, hx, hrun, Result.andThen]
      exact hK' _ _ (h _ w (by simpa using hown') (Upd.refl _ _) (.inl rfl))
    · refine wpList_append_grows w hgd s x t ho e i z k bytes ht hi hz hsize hby hzs hsz none 0 0 [] hs (fun _ => ⟨rfl, rfl⟩) (by simp) (fun b hb => by cases hb) ad m xc news hx hnl hac' h1 (by omega) h63 hbytes ?_
      intro v' w' ho' hg'
      refine h v' w' (Sl.of_own ho') (Upd.of_grown hg' (fun g hg _ => by cases hg)) ?_
      rcases ho'.2 with ⟨rfl, h0⟩ | ⟨g', cap', cur', rfl, hb', _⟩
      · omega
      · exact .inr ⟨g', rfl, hb'⟩
  · refine wpList_append_arg w hgd s x t ho e i z k bytes ht hi hz hsize hby hzs hsz g off n cap xs hs hl (fun j u hj => by rw [cell_of_block hg]; exact hcell j u hj) ad m xc news hx hnl hac' h1 ?_ h63 hbytes ?_ ?_
    · intro hroom j hj
      have hj' : off + n * k + j < cur.size := by
        have := Nat.mul_le_mul_right k hroom
        rw [Nat.add_mul] at this
        omega
      exact ⟨by rw [cell_of_block hg]; simp [hj'], frozen_of_block hg _⟩
    · intro hroom
      obtain ⟨cur', h2, h3, h4⟩ := heap_setCells_same news (off + n * k) w g cur e (0, 0) hg
      have hm := Nat.mul_le_mul_right k hroom
      rw [Nat.add_mul] at hm
      refine h _ _ ⟨by rw [List.length_append, hl, hnl, Nat.add_mul], .inr ⟨g, off, cap, cur', rfl, h2, hroom, hcm, by omega, fun j u hj => ?_⟩⟩ (upd_setCells _ w g _ news rfl) (.inl rfl)
      rw [h4]
      by_cases hj1 : j < xs.length
      · rw [List.getElem?_append_left hj1] at hj
        rw [if_neg (by omega)]
        exact hcell j u hj
      · rw [List.getElem?_append_right (by omega)] at hj
        have hlt := (List.getElem?_eq_some_iff.1 hj).1
        rw [if_pos ⟨by omega, by omega, by omega⟩]
        have : off + j - (off + n * k) = j - xs.length := by omega
        rw [this]; exact hj
    · intro hfull v' w' ho' hg'
      refine h v' w' (Sl.of_own ho') (Upd.of_grown hg' (fun g hg _ => by cases hg)) ?_
      rcases ho'.2 with ⟨rfl, h0⟩ | ⟨g', cap', cur', rfl, hb', _⟩
      · omega
      · exact .inr ⟨g', rfl, hb'⟩
theorem Rd.fresh (w : World) (news : List Value) (e : TypeId) {k m : Nat} (c : Nat) (hl : news.length = m * k) (hm : m ≤ maxLen) : Rd (w.alloc (.cells news.toArray e)) k (.slice (some ⟨w.heap.size, 0, none⟩) m c) m news := by
  refine ⟨hl, hm, some ⟨w.heap.size, 0, none⟩, c, rfl, (fun h => by cases h), (fun b hb => ?_)⟩
  cases hb
  intro j u hj
  rw [Addr.add_lit, cell_of_block (heap_alloc_last _ _ rfl)]
  simpa using hj
theorem blockFrom.ge {w : World} {v v' : Value} (h : blockFrom w v v') {B : Nat} (hB : B ≤ w.heap.size) (hv : From B v) : From B v' := by
  intro g hg
  rcases h with h | ⟨g', h, hle⟩
  · exact hv g (by rw [← h]; exact hg)
  · rw [h] at hg; cases hg; omega
theorem wpList_append_one {P : Program} {ops : Array Oper} {rest : List Oper} {o : Oper} {a : Act} {Q : Exit → Act → World → Prop} (hgd : o.guard = none) (s x : Operand) (t : TypeId)
    (ho : o.op = .call { callee := .builtin .append, args := #[s, x], argTypes := #[t, t] })
    (i : TypeInfo) (z : Value) (bytes : Nat) (ht : P.underlying t = some (.slice e)) (hi : P.info? e = some i) (hz : i.zero = some z)
    (hsize : i.size = k) (hby : i.bytes = bytes) (hzs : z.cells.size = k) (hsz : 0 < k)
    (hs : a.eval s = v) (hown : Sl w e k v n xs) (news : List Value) (hx : a.eval x = .slice (some ⟨w.heap.size, 0, none⟩) 1 1) (hl : news.length = k) (h1 : ∀ u ∈ news, u.oneCell' = true)
    (h63 : n + 1 ≤ maxLen) (hbytes : (n + 1) * bytes ≤ 140737488355328)
    (h : ∀ v' w', Sl w' e k v' (n + 1) (xs ++ news) → Upd (ownS v) w w' → blockFrom w v v' → wpList P ops Q rest (a.put o.dst v') w') :
    wpList P ops Q (o :: rest) a (w.alloc (.cells news.toArray e)) := by
  refine wpList_append_sl hgd s x t ho i z bytes ht hi hz hsize hby hzs hsz hs (hown.keep ((Upd.refl (fun _ => False) w).alloc _) (fun _ _ h => h)) _ 1 news hx (Rd.fresh w news e 1 (by omega) (by unfold maxLen; omega)) h1 h63 hbytes ?_
  intro v' w' h2 h3 h4
  refine h v' w' h2 (Upd.new ((Upd.refl _ _).alloc _) h3 (fun i _ h => h)) ?_
  rcases h4 with h4 | ⟨g, h4, h5⟩
  · exact .inl h4
  · exact .inr ⟨g, h4, by simp at h5; omega⟩
theorem Rd.below {w w' : World} {k n : Nat} {v : Value} {xs : List Value} (h : Rd w k v n xs) (hb : Below w.heap.size w w') : Rd w' k v n xs := h.keep (Upd.of_below (S := fun _ => False) hb) (fun _ _ h => h)
theorem below_upd {B : Nat} {a w w' : World} {S : Nat → Prop} (h : Below B a w) (hu : Upd S w w') (hB : B ≤ a.heap.size) (hs : ∀ k, S k → B ≤ k) : Below B a w' :=
  ⟨hu.os.trans h.os, hu.tape.trans h.tape, hu.output.trans h.output, Nat.le_trans h.size hu.size, fun k hk => (hu.block k (by have := h.size; omega) (fun hS => by have := hs k hS; omega)).trans (h.block k hk)⟩
theorem below_drewN {B : Nat} {a w : World} (h : Below B a w) (n : Nat) : Below B a (w.drewN n) := ⟨h.os, h.tape, h.output, h.size, h.block⟩
def Dis (v u : Value) : Prop := ∀ g, v.ownBlock = some g → u.ownBlock = some g → False
theorem Dis.symm {v u : Value} (h : Dis v u) : Dis u v := fun g h1 h2 => h g h2 h1
theorem Dis.nil (n c : Nat) (u : Value) : Dis (.slice none n c) u := fun g h => by cases h
theorem Dis.from {w : World} {v v' u : Value} (h : Dis v u) (hb : blockFrom w v v') (hu : ∀ g, u.ownBlock = some g → g < w.heap.size) : Dis v' u := by
  intro g h1 h2
  rcases hb with hb | ⟨g', hb, hle⟩
  · exact h g (by rw [← hb]; exact h1) h2
  · rw [hb] at h1; cases h1; have := hu g h2; omega
theorem Sl.keep_dis {w w' : World} {e : TypeId} {k n : Nat} {v u : Value} {xs : List Value} (h : Sl w e k v n xs) (hd : Dis v u) (hu : Upd (ownS u) w w') : Sl w' e k v n xs :=
  h.keep hu (fun g hg hs => hd g hg hs)
theorem Sl.tail {w : World} {e : TypeId} {g off n cap : Nat} {x : Value} {xs : List Value} (h : Sl w e 1 (.slice (some ⟨g, off, none⟩) (n + 1) cap) (n + 1) (x :: xs)) :
    Sl w e 1 (.slice (some ⟨g, off + 1, none⟩) n (cap - 1)) n xs ∧ (cap = 1 → Sl w e 1 (.slice (some ⟨g, off, none⟩) n 0) n xs) ∧ 1 ≤ cap := by
  obtain ⟨hl, ⟨h1, _⟩ | ⟨g', off', cap', cur, h1, hg, hn, hm, hs, hc⟩⟩ := h
  · cases h1
  · cases h1
    simp at hl
    refine ⟨⟨by omega, .inr ⟨g, off + 1, cap - 1, cur, rfl, hg, by omega, by omega, by omega, fun j u hj => ?_⟩⟩, fun hcap => ⟨by omega, .inr ⟨g, off, 0, cur, rfl, hg, by omega, by omega, by omega, fun j u hj => ?_⟩⟩, by omega⟩
    · have := hc (j + 1) u (by simpa using hj)
      rw [← this]; congr 1; omega
    · have := (List.getElem?_eq_some_iff.1 hj).1; omega
theorem Sl.keep_ne {w w' : World} {e : TypeId} {k n : Nat} {v : Value} {xs : List Value} (h : Sl w e k v n xs) {b : Nat} (hu : Upd (fun j => j = b) w w') (hne : v.ownBlock ≠ some b) : Sl w' e k v n xs :=
  h.keep hu (fun g hg hs => hne (by rw [hg, hs]))
theorem upd_setCell (w : World) (b i : Nat) (u : Value) : Upd (fun j => j = b) w (w.setCell ⟨b, i, none⟩ u) := Upd.setCell (S := fun j => j = b) (Upd.refl _ w) ⟨b, i, none⟩ (fun _ => rfl) u
end
def ints (l : List Int) : List Value := l.map (.int .i64)
@[simp] theorem ints_nil : ints [] = [] := rfl
@[simp] theorem ints_cons (x : Int) (l : List Int) : ints (x :: l) = .int .i64 x :: ints l := rfl
@[simp] theorem ints_append (l m : List Int) : ints (l ++ m) = ints l ++ ints m := by simp [ints]
@[simp] theorem length_ints (l : List Int) : (ints l).length = l.length := by simp [ints]
theorem get_ints {l : List Int} {j : Nat} (h : j < l.length) : (ints l)[j]? = some (.int .i64 l[j]) := by simp [ints, h]
end Go.Proofs.YtfhfbpmlnjdfoaaGreatDoor
namespace Go.Proofs.YtfhfbpmlnjdfoaaGreatDoor
open Go Go.RowKit Go.ChangeShapes Go.WideShapes Go.ChangeAt
section
variable {H : Type} {enc : TypeId × Value → H} {P : Program}
theorem trodAll_stays (hl : laidOutB P = true) {W W' : World} (hb : Below W.heap.size W W') : ∀ (ts : List TypeId) (vs : List Value) (ds : List (DataW H)) (ps : List MemPlace),
    (∀ t ∈ ts, P.readableRec t = true ∧ t < P.types.size) → DataW.TrodAll enc P W 0 (fun _ => true) true ts vs ds ps → (∀ x ∈ ps, x.block < W.heap.size) →
    DataW.TrodAll enc P W' 0 (fun b => decide (b < W.heap.size)) true ts vs ds ps := by
  intro ts
  induction ts with
  | nil =>
    intro vs ds ps _ h _
    cases vs <;> cases ds <;> simp [DataW.TrodAll] at h ⊢
    exact h
  | cons t ts ih =>
    intro vs ds ps ht h hlt
    cases vs <;> cases ds <;> simp only [DataW.TrodAll] at h ⊢
    obtain ⟨p, q, h1, h2, rfl⟩ := h
    obtain ⟨hr, hs⟩ := ht t (by simp)
    exact ⟨p, q, Below.trod hl hr hs h1 hb (fun x hx => hlt x (by simp [hx])), ih _ _ _ (fun t' ht' => ht t' (by simp [ht'])) h2 (fun x hx => hlt x (by simp [hx])), rfl⟩
theorem law_post {f : Func} {s : ChangeSpec} {W W' : World} {args : Array Value} {ds gs : List (DataW H)} {before : List MemPlace} {T : TypeId}
    (hl : laidOutB P = true) (hts : f.params.toList.all (fun t => P.readableRec t && decide (t < P.types.size)) = true)
    (hres : f.resultTypes = #[T]) (hbool : P.underlying T = some .bool) (hvars : s.vars = [])
    (hfn : s.fn H (ds ++ gs) = { results := [.lit (.bool true)], args := ds })
    (hW : DataW.Whole enc P f.params.toList s.vars false W args.toList ds gs before) (hb : Below W.heap.size W W') :
    s.post enc P f false true false false W args (.bool true) W' := by
  have hlt : ∀ x ∈ before, x.block < W.heap.size := fun x hx => by simpa using hW.lt x hx
  have hW' := hW
  obtain ⟨p, q, hA, hV, rfl, hz, hn⟩ := hW
  rw [hvars] at hV
  refine ⟨ds, gs, p ++ q, [], p, [], hW', ?_, ?_, ?_, hb.frame _, fun h => by cases h⟩
  · rw [hres, hfn]
    exact trodAll_cons_mk (shut_bool hbool true) trodAll_mk0
  · rw [hfn]
    exact trodAll_stays hl hb _ _ _ _ (fun t ht => by have := List.all_eq_true.1 hts t ht; simpa using this) hA (fun x hx => hlt x (by simp [hx]))
  · rw [hvars, hfn]; rfl
theorem flat_at {α : Type} {f : α → List Value} {k : Nat} (hf : ∀ a, (f a).length = k) : ∀ (l : List α) (i j : Nat), j < k → ∀ a, l[i]? = some a → (l.flatMap f)[i * k + j]? = (f a)[j]? := by
  intro l
  induction l with
  | nil => intro i j _ a h; simp at h
  | cons b l ih =>
    intro i j hj a h
    cases i with
    | zero => simp at h; subst h; rw [List.flatMap_cons, Nat.zero_mul, Nat.zero_add, List.getElem?_append_left (by rw [hf]; exact hj)]
    | succ i =>
      simp at h
      have e : (i + 1) * k + j - (f b).length = i * k + j := by rw [hf, Nat.add_mul]; omega
      rw [List.flatMap_cons, List.getElem?_append_right (by rw [hf, Nat.add_mul]; omega), e]
      exact ih i j hj a h
theorem length_flat {α : Type} {f : α → List Value} {k : Nat} (hf : ∀ a, (f a).length = k) (l : List α) : (l.flatMap f).length = l.length * k := by
  induction l with
  | nil => simp
  | cons b l ih => rw [List.flatMap_cons, List.length_append, ih, hf, List.length_cons, Nat.add_mul]; omega
theorem open_rd {α : Type} [Inhabited α] (f : α → List Value) (φ : α → Prop) {k : Nat} (hf : ∀ a, (f a).length = k) (hk : 0 < k) {W : World} {base : Nat} {t e : TypeId} {v : Value} {d : DataW H} {p : List MemPlace} (ht : P.underlying t = some (.slice e)) (hc : P.cellsOf e = k)
    (hel : ∀ (n : Nat) (cs : List Value) (x : DataW H × List MemPlace), DataW.trod enc P W 0 (fun _ => true) true n e cs = some x → ∃ a, cs = f a ∧ φ a)
    (hok : Value.okWide P W .any base t v) (h : DataW.Trod enc P W 0 (fun _ => true) true t v d p) :
    ∃ l : List α, Rd W k v l.length (l.flatMap f) ∧ ∀ a ∈ l, φ a := by
  obtain ⟨a0, len0, cap0, rfl⟩ := okWide_slice ht hok
  obtain ⟨fuel, hfu⟩ := h
  rcases Deep.open_slice ht hfu with ⟨hcs, hx⟩ | ⟨a, len, cap, m, n, D, Pl, hcs, _, hl, hm, hmm, hx, hcell⟩
  · simp only [Value.cells, List.cons.injEq, Value.slice.injEq, and_true] at hcs
    obtain ⟨rfl, rfl, rfl⟩ := hcs
    exact ⟨[], ⟨by simp, by simp [maxLen], none, 0, rfl, fun _ => rfl, fun b hb => by cases hb⟩, by simp⟩
  · simp only [Value.cells, List.cons.injEq, Value.slice.injEq, and_true] at hcs
    obtain ⟨rfl, rfl, rfl⟩ := hcs
    have hmc : m = cap0 := by simpa using hmm
    have hex : ∀ i, ∃ x : α, i < len0 → W.cells? 0 (a.add (i * k)) k = some (f x) ∧ φ x := by
      intro i
      by_cases hi : i < len0
      · obtain ⟨cs', h1, h2⟩ := hcell i (by omega)
        obtain ⟨x, rfl, hφ⟩ := hel _ _ _ h2
        rw [hc] at h1
        exact ⟨x, fun _ => ⟨h1, hφ⟩⟩
      · exact ⟨default, fun h => absurd h hi⟩
    have hch : ∃ g : Nat → α, ∀ i, i < len0 → W.cells? 0 (a.add (i * k)) k = some (f (g i)) ∧ φ (g i) := ⟨fun i => Classical.choose (hex i), fun i => Classical.choose_spec (hex i)⟩
    obtain ⟨g, hg⟩ := hch
    refine ⟨(List.range len0).map g, ⟨length_flat hf _, by simp; omega, some a, cap0, by simp, (fun h => by cases h), fun b hb j u hj => ?_⟩, ?_⟩
    · cases hb
      have hjl := (List.getElem?_eq_some_iff.1 hj).1
      rw [length_flat hf, List.length_map, List.length_range] at hjl
      have hi : j / k < len0 := (Nat.div_lt_iff_lt_mul hk).2 hjl
      have hjk : j % k < k := Nat.mod_lt _ hk
      have he : j / k * k + j % k = j := by rw [Nat.mul_comm]; exact Nat.div_add_mod j k
      rw [← he] at hj
      rw [flat_at hf _ (j / k) (j % k) hjk (g (j / k)) (by simp [hi])] at hj
      obtain ⟨_, _, h3⟩ := World.cells?_some (hg _ hi).1
      have h4 := h3 (j % k) hjk
      rw [hj] at h4
      have e2 : (a.add (j / k * k)).add (j % k) = a.add j := by
        have : ∀ (x y : Nat), (a.add x).add y = a.add (x + y) := by
          intro x y; unfold Addr.add; by_cases h1 : x = 0 <;> by_cases h2 : y = 0 <;> simp [h1, h2, Nat.add_assoc]
        rw [this, he]
      rw [← e2]; exact h4
    · intro x hx
      obtain ⟨i, hi, rfl⟩ := List.mem_map.1 hx
      exact (hg i (by simpa using hi)).2
end
end Go.Proofs.YtfhfbpmlnjdfoaaGreatDoor
namespace Go.Proofs.YtfhfbpmlnjdfoaaGreatDoor
def atOf (ps : List (Int × Bool)) (s : Int) : Option Nat := if s < 0 then none else ps.findIdx? (fun p => p.1 == s)
structure Good (ps : List (Int × Bool)) (slots : Nat) : Prop where
  each : ∀ k (h : k < ps.length), ps[k] = (-1, false) ∨ (0 ≤ ps[k].1 ∧ ps[k].1 < slots)
  inj : ∀ i j (hi : i < ps.length) (hj : j < ps.length), 0 ≤ ps[i].1 → ps[i].1 = ps[j].1 → i = j
theorem atOf_some {ps : List (Int × Bool)} {s : Int} {k : Nat} (h : atOf ps s = some k) : 0 ≤ s ∧ ∃ h : k < ps.length, ps[k].1 = s := by
  unfold atOf at h
  split at h
  · cases h
  · rw [List.findIdx?_eq_some_iff_getElem] at h
    obtain ⟨hk, h1, _⟩ := h
    exact ⟨by omega, hk, by simpa using h1⟩
theorem Good.start (n slots : Nat) : Good (List.replicate n (-1, false)) slots :=
  ⟨fun k h => .inl (by simp), fun i j hi hj h0 _ => by simp at h0⟩
theorem atOf_start (n : Nat) : atOf (List.replicate n (-1, false)) = fun _ => none := by
  funext s
  cases h : atOf (List.replicate n (-1, false)) s with
  | none => rfl
  | some k =>
    obtain ⟨h0, hk, he⟩ := atOf_some h
    simp at he
    omega
end Go.Proofs.YtfhfbpmlnjdfoaaGreatDoor
namespace Go.Proofs.YtfhfbpmlnjdfoaaGreatDoor
open Go Go.RowKit Go.Maps
def MapAt (w : World) (mb N : Nat) (f : Int → Option Nat) : Prop :=
  ∃ D : DataW Unit, w.ownsMap Tryz.prog 3 (plainElem Tryz.prog 3) mb N D ∧
    ∀ s : Int, Maps.has D (.int .i64 s) = (f s).isSome ∧ ∀ c, f s = some c → ∀ z, D.atKey (.int .i64 s) z = .lit (.int .i64 (c : Int))
theorem keyedI : Keyed Tryz.prog 3 := int_keyed Tryz.underlying3
theorem wfI {x : Int} (h1 : -9223372036854775808 ≤ x) (h2 : x < 9223372036854775808) : (Lit.int .i64 x).wf = true := by
  have e1 : IntKind.i64.min = -9223372036854775808 := by decide
  have e2 : IntKind.i64.max = 9223372036854775807 := by decide
  simp only [Lit.wf, e1, e2, Bool.and_eq_true, decide_eq_true_eq]
  omega
theorem keyI {x : Int} (h1 : -9223372036854775808 ≤ x) (h2 : x < 9223372036854775808) : keyOf Tryz.prog 3 (.int .i64 x) = some (.int .i64 x) := keyOf_int_mk Tryz.underlying3 (wfI h1 h2)
theorem MapAt.lt {w : World} {mb N : Nat} {f : Int → Option Nat} (h : MapAt w mb N f) : mb < w.heap.size := by obtain ⟨D, h, _⟩ := h; exact h.lt
theorem MapAt.keep {w w' : World} {mb N : Nat} {f : Int → Option Nat} (h : MapAt w mb N f) {S : Nat → Prop} (hu : Upd S w w') (hs : ¬ S mb) : MapAt w' mb N f := by
  obtain ⟨D, ⟨es, clock, hb, r⟩, hf⟩ := h
  exact ⟨D, ⟨es, clock, (hu.block _ (lt_of_block hb) hs).trans hb, r⟩, hf⟩
theorem MapAt.made (w : World) : MapAt (w.alloc (.map #[] 0)) w.heap.size 0 (fun _ => none) :=
  ⟨.map [], World.ownsMap_made w _ _ _, fun s => ⟨rfl, fun c h => by cases h⟩⟩
theorem upd_turned {w w' : World} {b : Nat} (h : w.mapTurned w' b) : Upd (fun j => j = b) w w' := by
  obtain ⟨a, b', c, d, e⟩ := h.grown
  exact ⟨a, b', c, d, fun i hi hs => e i hi (fun e => hs (by simpa using e))⟩
theorem turned_size {w w' : World} {b : Nat} (h : w.mapTurned w' b) : w'.heap.size = w.heap.size := by
  obtain ⟨es, clock, es', clock', hb, rfl⟩ := h
  simp [Go.ChangeMaps.setBlock]
theorem zeroI (w : World) : (zeroValue 3).run Tryz.prog w = .ok (.int .i64 0) w := by
  exact Tryz.zeroValue3 w
end Go.Proofs.YtfhfbpmlnjdfoaaGreatDoor
