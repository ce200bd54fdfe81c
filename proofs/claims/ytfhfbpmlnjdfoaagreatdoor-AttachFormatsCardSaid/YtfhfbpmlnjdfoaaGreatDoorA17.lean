/- Sets of ints in memory (maps to struct{}), as functions. Maps and sets of ints in memory: as many entries as there are keys in a range; clear. A ledger in memory: New, has, hasAny, Put, Scrub. slices.Clone, slices.Delete of one at []int. slices.Grow of nil, slices.Concat of two, at []int. The clock: what it is in memory; New, Has, Ghost, Len, Touch. -/
import Derived.Test.YtfhfbpmlnjdfoaaGreatDoorA16
import Derived.Test.YtfhfbpmlnjdfoaaGreatDoorA01
import Derived.Shelf.SlMaps.Clone
import Derived.Maps.Range
import Derived.Deep.RegionLaw
import Derived.Lib.SliceRun
import Derived.Lib.AppendZeros
namespace Go.Proofs.YtfhfbpmlnjdfoaaGreatDoor
open Go Go.RowKit Go.Maps
def SetAt (w : World) (mb N : Nat) (A : Int → Bool) : Prop :=
  ∃ D : DataW Unit, w.ownsMap Tryz.prog 3 unitElem mb N D ∧ ∀ s : Int, Maps.has D (.int .i64 s) = A s
theorem SetAt.lt {w : World} {mb N : Nat} {A : Int → Bool} (h : SetAt w mb N A) : mb < w.heap.size := by obtain ⟨D, h, _⟩ := h; exact h.lt
theorem SetAt.keep {w w' : World} {mb N : Nat} {A : Int → Bool} (h : SetAt w mb N A) {S : Nat → Prop} (hu : Upd S w w') (hs : ¬ S mb) : SetAt w' mb N A := by
  obtain ⟨D, ⟨es, clock, hb, r⟩, hf⟩ := h
  exact ⟨D, ⟨es, clock, (hu.block _ (lt_of_block hb) hs).trans hb, r⟩, hf⟩
theorem SetAt.mono {w : World} {mb N N' : Nat} {A : Int → Bool} (h : SetAt w mb N A) (hn : N ≤ N') : SetAt w mb N' A := by obtain ⟨D, h, hf⟩ := h; exact ⟨D, h.mono hn, hf⟩
theorem SetAt.made (w : World) : SetAt (w.alloc (.map #[] 0)) w.heap.size 0 (fun _ => false) :=
  ⟨.map [], World.ownsMap_made w _ _ _, fun _s => rfl⟩
def updB (A : Int → Bool) (x : Int) (v : Bool) : Int → Bool := fun s => if s = x then v else A s
def InR (x : Int) : Prop := -9223372036854775808 ≤ x ∧ x < 9223372036854775808
theorem zeroU (w : World) : (zeroValue 370).run Tryz.prog w = .ok (.agg #[]) w := by
  exact Tryz.zeroValue370 w
theorem SetAt.look {w : World} {mb N : Nat} {A : Int → Bool} (h : SetAt w mb N A) {x : Int} (hx : InR x) :
    (Instr.lookup 331 (.map (some mb)) (.int .i64 x) true).run Tryz.prog w = .ok (.tuple #[.agg #[], .bool (A x)]) w := by
  obtain ⟨D, ho, hf⟩ := h
  obtain ⟨v, ps, hr, hv⟩ := ho.look_ok keyedI Tryz.underlying331 (zeroU w) unitElem_mk (keyI hx.1 hx.2)
  obtain ⟨rfl, _⟩ := unitElem_inv hv
  rw [hr, hf x]
theorem SetAt.store {w : World} {mb N : Nat} {A : Int → Bool} (h : SetAt w mb N A) {x : Int} (hx : InR x) (hn : N < maxLen) :
    ∃ w', (Instr.mapUpdate 331 (.map (some mb)) (.int .i64 x) (.agg #[])).run Tryz.prog w = .ok () w' ∧ SetAt w' mb (N + 1) (updB A x true) ∧ Upd (fun j => j = mb) w w' ∧ w'.heap.size = w.heap.size := by
  obtain ⟨D, ho, hf⟩ := h
  have hM := ho.isMap
  have hK : ∀ y : Int, WideAt.IsKeyLit (.int .i64 y) := fun _ => trivial
  obtain ⟨w', hr, ho', ht⟩ := ho.store (ps := []) (d := .agg []) keyedI Tryz.underlying331 hn (keyI hx.1 hx.2) unitElem_mk
  refine ⟨w', hr, ⟨_, ho', fun s => ?_⟩, upd_turned ht, turned_size ht⟩
  by_cases hs : s = x
  · subst hs
    simp only [updB, if_true]
    rw [has_put_same hM (hK _)]
  · have hne : Lit.int .i64 s ≠ Lit.int .i64 x := fun e => hs (by injection e)
    simp only [updB, if_neg hs, has_put_other hne]
    exact hf s
end Go.Proofs.YtfhfbpmlnjdfoaaGreatDoor
namespace Go.Proofs.YtfhfbpmlnjdfoaaGreatDoor
open Go Go.RowKit Go.Maps Go.WideElems
theorem nodup_bound : ∀ (n : Nat) (l : List Int), l.Nodup → (∀ x ∈ l, -1 ≤ x ∧ x < (n : Int)) → l.length ≤ n + 1 := by
  intro n
  induction n with
  | zero =>
    intro l hd hr
    match l, hd, hr with
    | [], _, _ => simp
    | [_], _, _ => simp
    | a :: b :: l, hd, hr =>
      have h1 := hr a (by simp)
      have h2 := hr b (by simp)
      have : a = b := by omega
      simp [this] at hd
  | succ n ih =>
    intro l hd hr
    have h1 := ih (l.erase (n : Int)) (hd.erase _) (fun x hx => by
      have h2 := hr x (List.mem_of_mem_erase hx)
      have h3 : x ≠ (n : Int) := fun e => by subst e; exact (List.Nodup.not_mem_erase hd) hx
      omega)
    have h4 : l.length ≤ (l.erase (n : Int)).length + 1 := by
      rw [List.length_erase]; split <;> omega
    omega
theorem keys_bound {R : Value → Option (DataW Unit × List MemPlace)} {w : World} {mb N : Nat} {D : DataW Unit} (h : w.ownsMap Tryz.prog 3 R mb N D) (n : Nat) (hr : ∀ s : Int, Maps.has D (.int .i64 s) = true → -1 ≤ s ∧ s < (n : Int)) :
    w.ownsMap Tryz.prog 3 R mb (n + 1) D := by
  obtain ⟨es, clock, hb, F, hs, rfl⟩ := h
  refine ⟨es, clock, hb, F, ?_, rfl⟩
  have hk : ∀ x ∈ es.toList, ∃ c : Int, x.key = .int .i64 c ∧ Maps.has (DataW.map ((es.toList.map (rg Tryz.prog 3 R)).foldr DataW.insert [])) (.int .i64 c) = true := by
    intro x hx
    obtain ⟨y, hy⟩ := F.reads x hx
    obtain ⟨c, h1, h2⟩ := Maps.keyOf_int_inv Tryz.underlying3 (rd_key hy)
    refine ⟨c, h1, ?_⟩
    have h3 : (rg Tryz.prog 3 R x).1 = .int .i64 c := by rw [rg_of hy]; exact h2.1
    exact List.any_eq_true.2 ⟨rg Tryz.prog 3 R x, mem_sorted.2 (List.mem_map.2 ⟨x, hx, rfl⟩), by rw [h3]; exact WideAt.sameKey_self trivial⟩
  let g : MapEntry → Int := fun x => match x.key with | .int _ c => c | _ => 0
  have hg : ∀ x ∈ es.toList, x.key = .int .i64 (g x) := by
    intro x hx
    obtain ⟨c, h1, -⟩ := hk x hx
    simp only [g, h1]
  have hnd : (es.toList.map g).Nodup := by
    rw [List.Nodup, List.pairwise_map]
    have := ((MapKept.stamped_iff es clock).1 F.stamped).2.2
    refine List.Pairwise.imp_of_mem (fun {a b} ha hb' hne e => hne ?_) this
    rw [hg a ha, hg b hb', e]
  have := nodup_bound n _ hnd (fun s hs => by
    obtain ⟨x, hx, rfl⟩ := List.mem_map.1 hs
    obtain ⟨c, h1, h2⟩ := hk x hx
    have h3 : g x = c := by have := hg x hx; rw [h1] at this; injection this with _ h; exact h.symm
    rw [h3]
    exact hr c h2)
  simpa using this
theorem SetAt.tight {w : World} {mb N : Nat} {A : Int → Bool} (h : SetAt w mb N A) (n : Nat) (hr : ∀ s : Int, A s = true → -1 ≤ s ∧ s < (n : Int)) : SetAt w mb (n + 1) A := by
  obtain ⟨D, ho, hf⟩ := h
  exact ⟨D, keys_bound ho n (fun s hs => hr s (by rw [← hf]; exact hs)), hf⟩
theorem SetAt.clear {w : World} {mb N : Nat} {A : Int → Bool} (h : SetAt w mb N A) :
    ∃ w', (∀ ty, (Builtin.clear_ #[331] ty #[.map (some mb)]).run Tryz.prog w = .ok (.tuple #[]) w') ∧ SetAt w' mb N (fun _ => false) ∧ Upd (fun j => j = mb) w w' ∧ w'.heap.size = w.heap.size := by
  obtain ⟨D, ⟨es, clock, hb, F, hs, rfl⟩, hf⟩ := h
  refine ⟨ChangeMaps.setBlock w mb (.map #[] clock), ?_, ⟨.map [], ⟨#[], clock, (MapKept.heap_set hb).1, ⟨by simp, MapKept.stamped_empty _, by simp⟩, by simp, rfl⟩, fun s => rfl⟩, ?_, by simp [ChangeMaps.setBlock]⟩
  · intro ty; simp [Builtin.clear_, run_underlying Tryz.underlying331, MapKept.run_getObj_map hb, MapKept.run_setObj_map _ hb, Result.andThen, ChangeMaps.setBlock]
  · exact ⟨rfl, rfl, rfl, by simp [ChangeMaps.setBlock], fun k _ hk => (MapKept.heap_set hb).2 k hk⟩
end Go.Proofs.YtfhfbpmlnjdfoaaGreatDoor
namespace Go.Proofs.YtfhfbpmlnjdfoaaGreatDoor
open Go Go.RowKit
abbrev LgC (M : List (Nat × (Int → Bool))) : List Value := M.map fun p => .map (some p.1)
structure LgAt (w : World) (b : Nat) (v : Value) (blocks : Nat) (M : List (Nat × (Int → Bool))) : Prop where
  str : w.heap[b]? = some (.cells #[.int .i64 blocks, v] 330 (0, 0))
  sl : Sl w 331 1 v M.length (LgC M)
  sets : ∀ p ∈ M, SetAt w p.1 4097 p.2
  nd : (M.map (·.1)).Nodup
  mb : ∀ p ∈ M, p.1 ≠ b ∧ v.ownBlock ≠ some p.1
  vb : v.ownBlock ≠ some b
  len : M.length ≤ 1024
  bl : 1 ≤ blocks ∧ blocks ≤ 4096
  rg : ∀ p ∈ M, ∀ s : Int, p.2 s = true → -1 ≤ s ∧ s < (blocks : Int)
def lgS (b : Nat) (v : Value) (M : List (Nat × (Int → Bool))) : Nat → Prop := fun j => j = b ∨ v.ownBlock = some j ∨ j ∈ M.map (·.1)
section
variable {w w' : World} {b blocks : Nat} {v : Value} {M : List (Nat × (Int → Bool))}
theorem LgAt.keep (h : LgAt w b v blocks M) {S : Nat → Prop} (hu : Upd S w w') (hs : ∀ j, lgS b v M j → ¬ S j) : LgAt w' b v blocks M :=
  { h with
    str := (hu.block _ (lt_of_block h.str) (hs b (.inl rfl))).trans h.str
    sl := h.sl.keep hu (fun g hg => hs g (.inr (.inl hg)))
    sets := fun p hp => (h.sets p hp).keep hu (hs p.1 (.inr (.inr (List.mem_map.2 ⟨p, hp, rfl⟩)))) }
theorem LgAt.new (h : LgAt w b v blocks M) (hu : Upd (fun _ => False) w w') : LgAt w' b v blocks M := h.keep hu (fun _ _ h => h)
theorem LgAt.slt (h : LgAt w b v blocks M) : ∀ j, lgS b v M j → j < w.heap.size := by
  rintro j (rfl | hj | hj)
  · exact lt_of_block h.str
  · exact h.sl.lt hj
  · obtain ⟨p, hp, rfl⟩ := List.mem_map.1 hj
    exact (h.sets p hp).lt
theorem LgAt.c (h : LgAt w b v blocks M) : w.cell? ⟨b, 0, none⟩ = some (.int .i64 blocks) ∧ w.cell? ⟨b, 1, none⟩ = some v := by
  refine ⟨?_, ?_⟩ <;> rw [cell_of_block h.str] <;> rfl
theorem LgAt.at (h : LgAt w b v blocks M) {k : Nat} (hk : k < M.length) : ∃ g off cap, v = .slice (some ⟨g, off, none⟩) M.length cap ∧ w.cell? ⟨g, off + k, none⟩ = some (.map (some M[k].1)) := by
  obtain ⟨g, off, cap, cur, rfl, hg, hs, hc⟩ := h.sl.at (by omega)
  refine ⟨g, off, cap, rfl, ?_⟩
  rw [cell_of_block hg]
  exact hc k _ (by simp [LgC, hk])
theorem lg_set {M : List (Nat × (Int → Bool))} {k : Nat} (hk : k < M.length) (A : Int → Bool) : (M.set k (M[k].1, A)).map (·.1) = M.map (·.1) := by
  apply List.ext_getElem (by simp)
  intro i h1 h2
  simp only [List.getElem_map, List.getElem_set]
  split
  · rename_i e; subst e; rfl
  · rfl
theorem lgC_set {M : List (Nat × (Int → Bool))} {k : Nat} (hk : k < M.length) (A : Int → Bool) : LgC (M.set k (M[k].1, A)) = LgC M := by
  have h : ∀ M : List (Nat × (Int → Bool)), LgC M = (M.map (·.1)).map fun b => Value.map (some b) := fun M => by simp [LgC]
  rw [h, h, lg_set hk]
theorem LgAt.turn (h : LgAt w b v blocks M) {k : Nat} (hk : k < M.length) (hu : Upd (fun j => j = M[k].1) w w') {A : Int → Bool} (hs : SetAt w' M[k].1 4097 A) (hr : ∀ s : Int, A s = true → -1 ≤ s ∧ s < (blocks : Int)) :
    LgAt w' b v blocks (M.set k (M[k].1, A)) := by
  have hmk := h.mb M[k] (List.getElem_mem hk)
  exact { h with
    str := (hu.block _ (lt_of_block h.str) (fun e => hmk.1 e.symm)).trans h.str
    sl := by rw [lgC_set hk, List.length_set]; exact h.sl.keep hu (fun g hg e => hmk.2 (by rw [hg, e]))
    sets := fun p hp => by
      obtain ⟨i, hi, rfl⟩ := List.getElem_of_mem hp
      simp only [List.length_set] at hi
      rw [List.getElem_set]
      split
      · exact hs
      · rename_i hne
        refine (h.sets _ (List.getElem_mem hi)).keep hu (fun e => hne ?_)
        have := (List.getElem_inj (i := i) (j := k) (h₀ := by simpa using hi) (h₁ := by simpa using hk) h.nd).1 (by simpa using e)
        exact this.symm
    nd := by rw [lg_set hk]; exact h.nd
    mb := fun p hp => by
      have : p.1 ∈ (M.set k (M[k].1, A)).map (·.1) := List.mem_map.2 ⟨p, hp, rfl⟩
      rw [lg_set hk] at this
      obtain ⟨q, hq, hqe⟩ := List.mem_map.1 this
      rw [← hqe]; exact h.mb q hq
    len := by rw [List.length_set]; exact h.len
    rg := fun p hp s hps => by
      obtain ⟨i, hi, rfl⟩ := List.getElem_of_mem hp
      simp only [List.length_set] at hi
      rw [List.getElem_set] at hps
      split at hps
      · exact hr s hps
      · exact h.rg _ (List.getElem_mem hi) s hps }
end
def Lg (S : Nat → Prop) (w : World) (b blocks : Nat) (G : List (Int → Bool)) : Prop := ∃ v M, LgAt w b v blocks M ∧ M.map (·.2) = G ∧ ∀ j, lgS b v M j → S j
theorem Lg.thing (b blocks : Nat) (G : List (Int → Bool)) : Thing (fun S w => Lg S w b blocks G) where
  keep := fun h hu hs => by
    obtain ⟨v, M, h, hG, hS⟩ := h
    exact ⟨v, M, h.keep hu (fun j hj => hs j (hS j hj)), hG, hS⟩
  out := fun h hs => by
    obtain ⟨v, M, h, hG, hS⟩ := h
    exact ⟨v, M, h, hG, fun j hj => hs j (h.slt j hj) (hS j hj)⟩
theorem lhas_in {w : World} {b blocks : Nat} {v : Value} {M : List (Nat × (Int → Bool))} (h : LgAt w b v blocks M) (k : Nat) (hk : k < M.length) :
    Calls Tryz.prog 271 #[.pointer (some ⟨b, 0, none⟩), .int .i64 (k : Int)] w fun e w' => e = .returned (.int .i64 0) ∧ w = w' := by
  obtain ⟨-, g1⟩ := h.c
  obtain ⟨g, off, cap, rfl, -⟩ := h.at hk
  have hl := h.len
  have q1 : decide ((k : Int) < 0) = false := by simp
  have q2 : decide ((k : Int) ≥ (M.length : Int)) = false := by simp; omega
  have q3 : decide ((M.length : Int) ≤ (k : Int)) = false := by simp; omega
  have q4 : decide (M.length ≤ k) = false := by simp; omega
  clear h
  go_enter Tryz.func271, Tryz.ntmps271
  go_wp2
  go_ret
  exact ⟨rfl, rfl⟩
theorem lany {w : World} {mb N : Nat} {A : Int → Bool} (h : SetAt w mb N A) :
    Calls Tryz.prog 272 #[.map (some mb)] w fun e w' => e = .returned (.bool (A (-1))) ∧ Below w.heap.size w w' := by
  have hl := h.look (x := -1) (by unfold InR; omega)
  clear h
  go_enter Tryz.func272, Tryz.ntmps272
  go_wp2
  go_ret
  exact ⟨rfl, (Below.refl _ _).alloc (Nat.le_refl _) _⟩
def putA (A : Int → Bool) (x : Int) : Int → Bool := if x ≠ -1 ∧ A (-1) = true then A else updB (if x = -1 then fun _ => false else A) x true
theorem putA_rg {A : Int → Bool} {x : Int} {n : Nat} (hA : ∀ s : Int, A s = true → -1 ≤ s ∧ s < (n : Int)) (hx : x = -1 ∨ 0 ≤ x ∧ x < (n : Int)) (hn : 1 ≤ n) : ∀ s : Int, putA A x s = true → -1 ≤ s ∧ s < (n : Int) := by
  intro s hs
  unfold putA at hs
  split at hs
  · exact hA s hs
  · unfold updB at hs
    split at hs
    · omega
    · split at hs
      · simp at hs
      · exact hA s hs
def PutL (w : World) (b blocks : Nat) (v : Value) (M : List (Nat × (Int → Bool))) (k : Nat) (hk : k < M.length) (A : Int → Bool) (e : Ending) (w' : World) : Prop :=
  e = .returned (.int .i64 0) ∧ LgAt w' b v blocks (M.set k (M[k].1, A)) ∧ Upd (fun j => j = M[k].1) w w'
set_option maxRecDepth 100000 in
theorem lput_at {w : World} {b blocks : Nat} {v : Value} {M : List (Nat × (Int → Bool))} (h : LgAt w b v blocks M) (k : Nat) (hk : k < M.length) (x : Int) (hx : x = -1 ∨ (0 ≤ x ∧ x < (blocks : Int))) :
    Calls Tryz.prog 202 #[.pointer (some ⟨b, 0, none⟩), .int .i64 (k : Int), .int .i64 x] w (PutL w b blocks v M k hk (putA M[k].2 x)) := by
  have hmap : LgAt w b v blocks (M.set k (M[k].1, M[k].2)) := by
    have : M.set k (M[k].1, M[k].2) = M := by apply List.ext_getElem (by simp); intro i h1 h2; rw [List.getElem_set]; split; (rename_i e; subst e; rfl); rfl
    rw [this]; exact h
  have hset := h.sets M[k] (List.getElem_mem hk)
  have hrg := h.rg M[k] (List.getElem_mem hk)
  have hbl := h.bl
  have hl := h.len
  obtain ⟨g0, g1⟩ := h.c
  obtain ⟨g, off, cap, rfl, gk⟩ := h.at hk
  have b1 : (0 : Int) ≤ (k : Int) := by omega
  have b2 : (k : Int) < (M.length : Int) := by omega
  have hrg2 := putA_rg hrg hx hbl.1
  have HP := Lib.hid (And.intro hmap (And.intro hset (And.intro hrg (And.intro h hrg2))))
  clear hmap hset hrg h hrg2
  by_cases h1 : x = -1
  · have e1 : putA M[k].2 x = updB (fun _ => false) x true := by unfold putA; rw [if_neg (fun h => h.1 h1), if_pos h1]
    rw [e1] at HP ⊢
    subst h1
    clear e1 hx
    obtain ⟨w2, hr2, hs2, hu2, hz2⟩ := (HP.out.2.1).clear
    obtain ⟨w3, hr3, hs3, hu3, hz3⟩ := hs2.store (x := -1) (by unfold InR; omega) (by unfold maxLen; omega)
    have HE : Hid (PutL w b blocks (.slice (some ⟨g, off, none⟩) M.length cap) M k hk (updB (fun _ => false) (-1) true) (.returned (.int .i64 0)) w3) :=
      ⟨rfl, HP.out.2.2.2.1.turn hk (hu2.trans hu3) ((hs3.tight blocks HP.out.2.2.2.2).mono (by omega)) HP.out.2.2.2.2, hu2.trans hu3⟩
    clear hs2 hu2 hz2 hs3 hu3 hz3
    go_enter Tryz.func202, Tryz.ntmps202
    go_wp2_with (first
      | (go_at_call 271; refine (lhas_in HP.out.2.2.2.1 k hk).mono ?_; rintro e w' ⟨rfl, rfl⟩)
      | fail)
    go_ret
    exact HE.out
  · have hx' : 0 ≤ x ∧ x < (blocks : Int) := hx.resolve_left h1
    obtain ⟨c1, c2⟩ := hx'
    have q1 : (x != -1) = true := by rw [bne_iff_ne]; exact h1
    have q2 : decide (x < 0) = false := by simp; omega
    have q3 : decide (x ≥ (blocks : Int)) = false := by simp; omega
    have q4 : decide ((blocks : Int) ≤ x) = false := by simp; omega
    have q5 : (x == -1) = false := by rw [beq_eq_false_iff_ne]; exact h1
    by_cases h2 : M[k].2 (-1) = true
    · have e1 : putA M[k].2 x = M[k].2 := by unfold putA; rw [if_pos ⟨h1, h2⟩]
      rw [e1] at HP ⊢
      have hany : Calls Tryz.prog 272 #[.map (some M[k].1)] w fun e w' => e = .returned (.bool true) ∧ Below w.heap.size w w' := (lany HP.out.2.1).mono (fun e w' h => ⟨by rw [h.1, h2], h.2⟩)
      clear e1 hx h1 h2
      go_enter Tryz.func202, Tryz.ntmps202
      go_wp2_with (first
        | (go_at_call 271; refine (lhas_in HP.out.2.2.2.1 k hk).mono ?_; rintro e w' ⟨rfl, rfl⟩)
        | (go_at_call 272; refine hany.mono ?_; rintro e w1 ⟨rfl, hb1⟩)
        | fail)
      go_ret
      exact ⟨rfl, HP.out.1.new (Upd.of_below hb1), Upd.of_below hb1⟩
    · have e1 : putA M[k].2 x = updB M[k].2 x true := by unfold putA; rw [if_neg (fun h => h2 h.2), if_neg h1]
      rw [e1] at HP ⊢
      have h2' : M[k].2 (-1) = false := by simpa using h2
      have hany : Calls Tryz.prog 272 #[.map (some M[k].1)] w fun e w' => e = .returned (.bool false) ∧ Below w.heap.size w w' := (lany HP.out.2.1).mono (fun e w' h => ⟨by rw [h.1, h2'], h.2⟩)
      clear e1 hx h1 h2 h2'
      go_enter Tryz.func202, Tryz.ntmps202
      go_wp2_with (first
        | (go_at_call 271; refine (lhas_in HP.out.2.2.2.1 k hk).mono ?_; rintro e w' ⟨rfl, rfl⟩)
        | fail)
      refine hany.mono ?_
      rintro e w1 ⟨rfl, hb1⟩
      have hu1 : Upd (fun _ => False) w w1 := Upd.of_below hb1
      have h1 := HP.out.2.2.2.1.new hu1
      obtain ⟨w3, hr3, hs3, hu3, hz3⟩ := (HP.out.2.1.keep hu1 (fun h => h)).store (x := x) (by unfold InR; omega) (by unfold maxLen; omega)
      have HE : Hid (PutL w b blocks (.slice (some ⟨g, off, none⟩) M.length cap) M k hk (updB M[k].2 x true) (.returned (.int .i64 0)) w3) :=
        ⟨rfl, h1.turn hk hu3 ((hs3.tight blocks HP.out.2.2.2.2).mono (by omega)) HP.out.2.2.2.2, (hu1.mono (fun _ _ h => h.elim)).trans hu3⟩
      clear hs3 hu3 hz3 h1 hu1 hb1
      go_wp2
      go_ret
      exact HE.out
def putG (G : List (Int → Bool)) (k : Nat) (x : Int) : List (Int → Bool) := G.modify k (fun A => putA A x)
theorem lg_modify {M : List (Nat × (Int → Bool))} {k : Nat} (hk : k < M.length) (f : (Int → Bool) → Int → Bool) : (M.set k (M[k].1, f M[k].2)).map (·.2) = (M.map (·.2)).modify k f := by
  apply List.ext_getElem (by simp)
  intro i h1 h2
  simp only [List.getElem_map, List.getElem_set, List.getElem_modify]
  split
  · rename_i e; subst e; rfl
  · rfl
theorem lput {S : Nat → Prop} {w : World} {b blocks : Nat} {G : List (Int → Bool)} (h : Lg S w b blocks G) (k : Nat) (hk : k < G.length) (x : Int) (hx : x = -1 ∨ (0 ≤ x ∧ x < (blocks : Int))) :
    Calls Tryz.prog 202 #[.pointer (some ⟨b, 0, none⟩), .int .i64 (k : Int), .int .i64 x] w fun e w' => e = .returned (.int .i64 0) ∧ Lg S w' b blocks (putG G k x) ∧ Upd S w w' := by
  obtain ⟨v, M, h, rfl, hS⟩ := h
  have hk' : k < M.length := by simpa using hk
  refine (lput_at h k hk' x hx).mono ?_
  rintro e w' ⟨rfl, h2, hu⟩
  refine ⟨rfl, ⟨v, _, h2, lg_modify hk' (fun A => putA A x), fun j hj => hS j ?_⟩, hu.mono (fun j _ hj => hS j (.inr (.inr (by rw [hj]; exact List.mem_map.2 ⟨M[k], List.getElem_mem hk', rfl⟩))))⟩
  rcases hj with hj | hj | hj
  · exact .inl hj
  · exact .inr (.inl hj)
  · rw [lg_set hk'] at hj; exact .inr (.inr hj)
structure CkGood (most few : Nat) (K : List Int) (A : Int → Bool) (G : List Int) : Prop where
  kr : ∀ x ∈ K, InR x
  gr : ∀ x ∈ G, InR x
  kd : K.Nodup
  gd : G.Nodup
  dis : ∀ x ∈ K, x ∉ G
  ask : ∀ x, A x = true → x ∈ K
  kl : K.length ≤ most
  gl : G.length ≤ few
  ml : most ≤ 1024
  fl : few ≤ 1024
  m1 : 1 ≤ most
structure CkMem (w : World) (b mb N : Nat) (vk vg : Value) (most few : Nat) (K : List Int) (A : Int → Bool) (G : List Int) : Prop where
  str : w.heap[b]? = some (.cells #[.int .i64 most, .int .i64 few, vk, .map (some mb), vg] 333 (0, 0))
  ks : Sl w 3 1 vk K.length (ints K)
  gs : Sl w 3 1 vg G.length (ints G)
  set : SetAt w mb N A
  kb : vk.ownBlock ≠ some b
  gb : vg.ownBlock ≠ some b
  km : vk.ownBlock ≠ some mb
  gm : vg.ownBlock ≠ some mb
  bm : mb ≠ b
  kg : Dis vk vg
structure CkAt (w : World) (b mb N : Nat) (vk vg : Value) (most few : Nat) (K : List Int) (A : Int → Bool) (G : List Int) : Prop extends CkMem w b mb N vk vg most few K A G where
  good : CkGood most few K A G
def ckS (b mb : Nat) (vk vg : Value) : Nat → Prop := fun j => j = b ∨ j = mb ∨ vk.ownBlock = some j ∨ vg.ownBlock = some j
section
variable {w w' : World} {b mb N most few : Nat} {vk vg : Value} {K G : List Int} {A : Int → Bool}
theorem CkAt.keep (h : CkAt w b mb N vk vg most few K A G) {S : Nat → Prop} (hu : Upd S w w') (hs : ∀ j, ckS b mb vk vg j → ¬ S j) : CkAt w' b mb N vk vg most few K A G :=
  { h with
    str := (hu.block _ (lt_of_block h.str) (hs b (.inl rfl))).trans h.str
    ks := h.ks.keep hu (fun g hg => hs g (.inr (.inr (.inl hg))))
    gs := h.gs.keep hu (fun g hg => hs g (.inr (.inr (.inr hg))))
    set := SetAt.keep h.set hu (hs mb (.inr (.inl rfl))) }
theorem CkAt.blt (h : CkAt w b mb N vk vg most few K A G) : b < w.heap.size := lt_of_block h.str
theorem CkAt.slt (h : CkAt w b mb N vk vg most few K A G) : ∀ j, ckS b mb vk vg j → j < w.heap.size := by
  rintro j (rfl | rfl | hj | hj)
  · exact h.blt
  · exact h.set.lt
  · exact h.ks.lt hj
  · exact h.gs.lt hj
end
theorem CkGood.start {m f : Nat} (h1 : 1 ≤ m) (h2 : m ≤ 1024) (h3 : f ≤ 1024) : CkGood m f [] (fun _ => false) [] :=
  { kr := by simp, gr := by simp, kd := by simp, gd := by simp, dis := by simp, ask := by simp, kl := by simp, gl := by simp, ml := h2, fl := h3, m1 := h1 }
set_option maxRecDepth 100000 in
theorem knew_ok (m f : Nat) (w : World) (h1 : 1 ≤ m) (h2 : m ≤ 1024) (h3 : f ≤ 1024) :
    Calls Tryz.prog 135 #[.int .i64 m, .int .i64 f] w fun e w' => ∃ b mb, e = .returned (.tuple #[.pointer (some ⟨b, 0, none⟩), .int .i64 0]) ∧
      CkAt w' b mb 0 (.slice none 0 0) (.slice none 0 0) m f [] (fun _ => false) [] ∧ w.heap.size ≤ b ∧ w.heap.size ≤ mb ∧ Below w.heap.size w w' := by
  have hmm := @run_makeMap Tryz.prog
  have q1 : ¬ ((m : Int) < 1) := by omega
  have q2 : ¬ ((1024 : Int) < m) := by omega
  have q3 : ¬ ((f : Int) < 0) := by omega
  have q4 : ¬ ((1024 : Int) < f) := by omega
  have HM := Lib.hid (And.intro h1 (And.intro h2 h3))
  clear h1 h2 h3
  go_enter Tryz.func135, Tryz.ntmps135
  go_wp2
  go_ret2
  have hU := Upd.alloc (Upd.refl (fun _ => False) w) (.map #[] 0)
  have hz : (w.alloc (.map #[] 0)).heap.size = w.heap.size + 1 := by simp
  refine ⟨w.heap.size + 1, rfl, w.heap.size, ⟨⟨heap_alloc_last _ _ hz.symm, Sl.nil _ _ _, Sl.nil _ _ _, (SetAt.made w).keep (Upd.alloc (Upd.refl (fun _ => False) _) _) (fun h => h), by simp [Value.ownBlock], by simp [Value.ownBlock], by simp [Value.ownBlock], by simp [Value.ownBlock], by omega, Dis.nil _ _ _⟩, CkGood.start HM.out.1 HM.out.2.1 HM.out.2.2⟩, by omega, Nat.le_refl _, (hU.alloc _).below⟩
end Go.Proofs.YtfhfbpmlnjdfoaaGreatDoor
