/- A ledger in memory: New, has, hasAny, Put, Scrub. slices.Clone, slices.Delete of one at []int. slices.Grow of nil, slices.Concat of two, at []int. -/
import Derived.Test.YtdpoiaejhkfocaaGreatDoorG05
import Derived.Test.YtdpoiaejhkfocaaGreatDoorG01
import Derived.Deep.RegionLaw
import Derived.Lib.SliceRun
import Derived.Lib.AppendZeros
namespace Go.Proofs.YtdpoiaejhkfocaaGreatDoor
open Go Go.RowKit

/-- A slot's sets: of each its block, and what it holds. -/
abbrev LgC (M : List (Nat × (Int → Bool))) : List Value := M.map fun p => .map (some p.1)
/-- A ledger. -/
structure LgAt (w : World) (b : Nat) (v : Value) (blocks : Nat) (M : List (Nat × (Int → Bool))) : Prop where
  str : w.heap[b]? = some (.cells #[.int .i64 blocks, v] 238 (0, 0))
  sl : Sl w 239 1 v M.length (LgC M)
  sets : ∀ p ∈ M, SetAt w p.1 4097 p.2
  nd : (M.map (·.1)).Nodup
  mb : ∀ p ∈ M, p.1 ≠ b ∧ v.ownBlock ≠ some p.1
  vb : v.ownBlock ≠ some b
  len : M.length ≤ 1024
  bl : 1 ≤ blocks ∧ blocks ≤ 4096
  rg : ∀ p ∈ M, ∀ s : Int, p.2 s = true → -1 ≤ s ∧ s < (blocks : Int)

/-- The blocks of a ledger. -/
def lgS (b : Nat) (v : Value) (M : List (Nat × (Int → Bool))) : Nat → Prop := fun j => j = b ∨ v.ownBlock = some j ∨ j ∈ M.map (·.1)

section
variable {w w' : World} {b blocks : Nat} {v : Value} {M : List (Nat × (Int → Bool))}
theorem LgAt.keep (h : LgAt w b v blocks M) {S : Nat → Prop} (hu : Upd S w w') (hs : ∀ j, lgS b v M j → ¬ S j) : LgAt w' b v blocks M :=
  { h with
    str := (hu.block _ (lt_of_block h.str) (hs b (.inl rfl))).trans h.str
    sl := h.sl.keep hu (fun g hg => hs g (.inr (.inl hg)))
    sets := fun p hp => (h.sets p hp).keep hu (hs p.1 (.inr (.inr (List.mem_map.2 ⟨p, hp, rfl⟩)))) }
theorem LgAt.new (h : LgAt w b v blocks M) (hu : Upd (fun _ => False) w w') : LgAt w' b v blocks M := h.keep hu (fun _ _ h => h)
theorem LgAt.slt (h : LgAt w b v blocks M) : ∀ j, lgS b v M j → j < w.heap.size := by
  rintro j (rfl | hj | hj)
  · exact lt_of_block h.str
  · exact h.sl.lt hj
  · obtain ⟨p, hp, rfl⟩ := List.mem_map.1 hj
    exact (h.sets p hp).lt
theorem LgAt.c (h : LgAt w b v blocks M) : w.cell? ⟨b, 0, none⟩ = some (.int .i64 blocks) ∧ w.cell? ⟨b, 1, none⟩ = some v := by
  refine ⟨?_, ?_⟩ <;> rw [cell_of_block h.str] <;> rfl
theorem LgAt.at (h : LgAt w b v blocks M) {k : Nat} (hk : k < M.length) : ∃ g off cap, v = .slice (some ⟨g, off, none⟩) M.length cap ∧ w.cell? ⟨g, off + k, none⟩ = some (.map (some M[k].1)) := by
  obtain ⟨g, off, cap, cur, rfl, hg, hs, hc⟩ := h.sl.at (by omega)
  refine ⟨g, off, cap, rfl, ?_⟩
  rw [cell_of_block hg]
  exact hc k _ (by simp [LgC, hk])
theorem lg_set {M : List (Nat × (Int → Bool))} {k : Nat} (hk : k < M.length) (A : Int → Bool) : (M.set k (M[k].1, A)).map (·.1) = M.map (·.1) := by
  apply List.ext_getElem (by simp)
  intro i h1 h2
  simp only [List.getElem_map, List.getElem_set]
  split
  · rename_i e; subst e; rfl
  · rfl
theorem lgC_set {M : List (Nat × (Int → Bool))} {k : Nat} (hk : k < M.length) (A : Int → Bool) : LgC (M.set k (M[k].1, A)) = LgC M := by
  have h : ∀ M : List (Nat × (Int → Bool)), LgC M = (M.map (·.1)).map fun b => Value.map (some b) := fun M => by simp [LgC]
  rw [h, h, lg_set hk]
/-- A slot's set is another one. -/
theorem LgAt.turn (h : LgAt w b v blocks M) {k : Nat} (hk : k < M.length) (hu : Upd (fun j => j = M[k].1) w w') {A : Int → Bool} (hs : SetAt w' M[k].1 4097 A) (hr : ∀ s : Int, A s = true → -1 ≤ s ∧ s < (blocks : Int)) :
    LgAt w' b v blocks (M.set k (M[k].1, A)) := by
  have hmk := h.mb M[k] (List.getElem_mem hk)
  exact { h with
    str := (hu.block _ (lt_of_block h.str) (fun e => hmk.1 e.symm)).trans h.str
    sl := by rw [lgC_set hk, List.length_set]; exact h.sl.keep hu (fun g hg e => hmk.2 (by rw [hg, e]))
    sets := fun p hp => by
      obtain ⟨i, hi, rfl⟩ := List.getElem_of_mem hp
      simp only [List.length_set] at hi
      rw [List.getElem_set]
      split
      · exact hs
      · rename_i hne
        refine (h.sets _ (List.getElem_mem hi)).keep hu (fun e => hne ?_)
        have := (List.getElem_inj (i := i) (j := k) (h₀ := by simpa using hi) (h₁ := by simpa using hk) h.nd).1 (by simpa using e)
        exact this.symm
    nd := by rw [lg_set hk]; exact h.nd
    mb := fun p hp => by
      have : p.1 ∈ (M.set k (M[k].1, A)).map (·.1) := List.mem_map.2 ⟨p, hp, rfl⟩
      rw [lg_set hk] at this
      obtain ⟨q, hq, hqe⟩ := List.mem_map.1 this
      rw [← hqe]; exact h.mb q hq
    len := by rw [List.length_set]; exact h.len
    rg := fun p hp s hps => by
      obtain ⟨i, hi, rfl⟩ := List.getElem_of_mem hp
      simp only [List.length_set] at hi
      rw [List.getElem_set] at hps
      split at hps
      · exact hr s hps
      · exact h.rg _ (List.getElem_mem hi) s hps }
end

/-- A ledger, all of whose blocks S holds: of each slot its set. -/
def Lg (S : Nat → Prop) (w : World) (b blocks : Nat) (G : List (Int → Bool)) : Prop := ∃ v M, LgAt w b v blocks M ∧ M.map (·.2) = G ∧ ∀ j, lgS b v M j → S j
theorem Lg.thing (b blocks : Nat) (G : List (Int → Bool)) : Thing (fun S w => Lg S w b blocks G) where
  keep := fun h hu hs => by
    obtain ⟨v, M, h, hG, hS⟩ := h
    exact ⟨v, M, h.keep hu (fun j hj => hs j (hS j hj)), hG, hS⟩
  out := fun h hs => by
    obtain ⟨v, M, h, hG, hS⟩ := h
    exact ⟨v, M, h, hG, fun j hj => hs j (h.slt j hj) (hS j hj)⟩

theorem lhas_in {w : World} {b blocks : Nat} {v : Value} {M : List (Nat × (Int → Bool))} (h : LgAt w b v blocks M) (k : Nat) (hk : k < M.length) :
    Calls Tryz.prog 159 #[.pointer (some ⟨b, 0, none⟩), .int .i64 (k : Int)] w fun e w' => e = .returned (.int .i64 0) ∧ w = w' := by
  obtain ⟨-, g1⟩ := h.c
  obtain ⟨g, off, cap, rfl, -⟩ := h.at hk
  have hl := h.len
  have q1 : decide ((k : Int) < 0) = false := by simp
  have q2 : decide ((k : Int) ≥ (M.length : Int)) = false := by simp; omega
  have q3 : decide ((M.length : Int) ≤ (k : Int)) = false := by simp; omega
  have q4 : decide (M.length ≤ k) = false := by simp; omega
  clear h
  go_enter Tryz.func159, Tryz.ntmps159
  go_wp2
  go_ret
  exact ⟨rfl, rfl⟩
theorem lany {w : World} {mb N : Nat} {A : Int → Bool} (h : SetAt w mb N A) :
    Calls Tryz.prog 160 #[.map (some mb)] w fun e w' => e = .returned (.bool (A (-1))) ∧ Below w.heap.size w w' := by
  have hl := h.look (x := -1) (by unfold InR; omega)
  clear h
  go_enter Tryz.func160, Tryz.ntmps160
  go_wp2
  go_ret
  exact ⟨rfl, (Below.refl _ _).alloc (Nat.le_refl _) _⟩

/-- What Put lets a set be. -/
def putA (A : Int → Bool) (x : Int) : Int → Bool := if x ≠ -1 ∧ A (-1) = true then A else updB (if x = -1 then fun _ => false else A) x true
theorem putA_rg {A : Int → Bool} {x : Int} {n : Nat} (hA : ∀ s : Int, A s = true → -1 ≤ s ∧ s < (n : Int)) (hx : x = -1 ∨ 0 ≤ x ∧ x < (n : Int)) (hn : 1 ≤ n) : ∀ s : Int, putA A x s = true → -1 ≤ s ∧ s < (n : Int) := by
  intro s hs
  unfold putA at hs
  split at hs
  · exact hA s hs
  · unfold updB at hs
    split at hs
    · omega
    · split at hs
      · simp at hs
      · exact hA s hs
/-- What Put brings about. -/
def PutL (w : World) (b blocks : Nat) (v : Value) (M : List (Nat × (Int → Bool))) (k : Nat) (hk : k < M.length) (A : Int → Bool) (e : Ending) (w' : World) : Prop :=
  e = .returned (.int .i64 0) ∧ LgAt w' b v blocks (M.set k (M[k].1, A)) ∧ Upd (fun j => j = M[k].1) w w'

set_option maxRecDepth 100000 in
theorem lput_at {w : World} {b blocks : Nat} {v : Value} {M : List (Nat × (Int → Bool))} (h : LgAt w b v blocks M) (k : Nat) (hk : k < M.length) (x : Int) (hx : x = -1 ∨ (0 ≤ x ∧ x < (blocks : Int))) :
    Calls Tryz.prog 142 #[.pointer (some ⟨b, 0, none⟩), .int .i64 (k : Int), .int .i64 x] w (PutL w b blocks v M k hk (putA M[k].2 x)) := by
  have hmap : LgAt w b v blocks (M.set k (M[k].1, M[k].2)) := by
    have : M.set k (M[k].1, M[k].2) = M := by apply List.ext_getElem (by simp); intro i h1 h2; rw [List.getElem_set]; split; (rename_i e; subst e; rfl); rfl
    rw [this]; exact h
  have hset := h.sets M[k] (List.getElem_mem hk)
  have hrg := h.rg M[k] (List.getElem_mem hk)
  have hbl := h.bl
  have hl := h.len
  obtain ⟨g0, g1⟩ := h.c
  obtain ⟨g, off, cap, rfl, gk⟩ := h.at hk
  have b1 : (0 : Int) ≤ (k : Int) := by omega
  have b2 : (k : Int) < (M.length : Int) := by omega
  have hrg2 := putA_rg hrg hx hbl.1
  have HP := Lib.hid (And.intro hmap (And.intro hset (And.intro hrg (And.intro h hrg2))))
  clear hmap hset hrg h hrg2
  by_cases h1 : x = -1
  · have e1 : putA M[k].2 x = updB (fun _ => false) x true := by unfold putA; rw [if_neg (fun h => h.1 h1), if_pos h1]
    rw [e1] at HP ⊢
    subst h1
    clear e1 hx
    obtain ⟨w2, hr2, hs2, hu2, hz2⟩ := (HP.out.2.1).clear
    obtain ⟨w3, hr3, hs3, hu3, hz3⟩ := hs2.store (x := -1) (by unfold InR; omega) (by unfold maxLen; omega)
    have HE : Hid (PutL w b blocks (.slice (some ⟨g, off, none⟩) M.length cap) M k hk (updB (fun _ => false) (-1) true) (.returned (.int .i64 0)) w3) :=
      ⟨rfl, HP.out.2.2.2.1.turn hk (hu2.trans hu3) ((hs3.tight blocks HP.out.2.2.2.2).mono (by omega)) HP.out.2.2.2.2, hu2.trans hu3⟩
    clear hs2 hu2 hz2 hs3 hu3 hz3
    go_enter Tryz.func142, Tryz.ntmps142
    go_wp2_with (first
      | (go_at_call 159; refine (lhas_in HP.out.2.2.2.1 k hk).mono ?_; rintro e w' ⟨rfl, rfl⟩)
      | fail)
    go_ret
    exact HE.out
  · have hx' : 0 ≤ x ∧ x < (blocks : Int) := hx.resolve_left h1
    obtain ⟨c1, c2⟩ := hx'
    have q1 : (x != -1) = true := by rw [bne_iff_ne]; exact h1
    have q2 : decide (x < 0) = false := by simp; omega
    have q3 : decide (x ≥ (blocks : Int)) = false := by simp; omega
    have q4 : decide ((blocks : Int) ≤ x) = false := by simp; omega
    have q5 : (x == -1) = false := by rw [beq_eq_false_iff_ne]; exact h1
    by_cases h2 : M[k].2 (-1) = true
    · have e1 : putA M[k].2 x = M[k].2 := by unfold putA; rw [if_pos ⟨h1, h2⟩]
      rw [e1] at HP ⊢
      have hany : Calls Tryz.prog 160 #[.map (some M[k].1)] w fun e w' => e = .returned (.bool true) ∧ Below w.heap.size w w' := (lany HP.out.2.1).mono (fun e w' h => ⟨by rw [h.1, h2], h.2⟩)
      clear e1 hx h1 h2
      go_enter Tryz.func142, Tryz.ntmps142
      go_wp2_with (first
        | (go_at_call 159; refine (lhas_in HP.out.2.2.2.1 k hk).mono ?_; rintro e w' ⟨rfl, rfl⟩)
        | (go_at_call 160; refine hany.mono ?_; rintro e w1 ⟨rfl, hb1⟩)
        | fail)
      go_ret
      exact ⟨rfl, HP.out.1.new (Upd.of_below hb1), Upd.of_below hb1⟩
    · have e1 : putA M[k].2 x = updB M[k].2 x true := by unfold putA; rw [if_neg (fun h => h2 h.2), if_neg h1]
      rw [e1] at HP ⊢
      have h2' : M[k].2 (-1) = false := by simpa using h2
      have hany : Calls Tryz.prog 160 #[.map (some M[k].1)] w fun e w' => e = .returned (.bool false) ∧ Below w.heap.size w w' := (lany HP.out.2.1).mono (fun e w' h => ⟨by rw [h.1, h2'], h.2⟩)
      clear e1 hx h1 h2 h2'
      go_enter Tryz.func142, Tryz.ntmps142
      go_wp2_with (first
        | (go_at_call 159; refine (lhas_in HP.out.2.2.2.1 k hk).mono ?_; rintro e w' ⟨rfl, rfl⟩)
        | fail)
      refine hany.mono ?_
      rintro e w1 ⟨rfl, hb1⟩
      have hu1 : Upd (fun _ => False) w w1 := Upd.of_below hb1
      have h1 := HP.out.2.2.2.1.new hu1
      obtain ⟨w3, hr3, hs3, hu3, hz3⟩ := (HP.out.2.1.keep hu1 (fun h => h)).store (x := x) (by unfold InR; omega) (by unfold maxLen; omega)
      have HE : Hid (PutL w b blocks (.slice (some ⟨g, off, none⟩) M.length cap) M k hk (updB M[k].2 x true) (.returned (.int .i64 0)) w3) :=
        ⟨rfl, h1.turn hk hu3 ((hs3.tight blocks HP.out.2.2.2.2).mono (by omega)) HP.out.2.2.2.2, (hu1.mono (fun _ _ h => h.elim)).trans hu3⟩
      clear hs3 hu3 hz3 h1 hu1 hb1
      go_wp2
      go_ret
      exact HE.out

/-- What Put does to the slots' sets. -/
def putG (G : List (Int → Bool)) (k : Nat) (x : Int) : List (Int → Bool) := G.modify k (fun A => putA A x)
def scrubG (G : List (Int → Bool)) (k : Nat) : List (Int → Bool) := G.modify k (fun _ _ => false)
theorem lg_modify {M : List (Nat × (Int → Bool))} {k : Nat} (hk : k < M.length) (f : (Int → Bool) → Int → Bool) : (M.set k (M[k].1, f M[k].2)).map (·.2) = (M.map (·.2)).modify k f := by
  apply List.ext_getElem (by simp)
  intro i h1 h2
  simp only [List.getElem_map, List.getElem_set, List.getElem_modify]
  split
  · rename_i e; subst e; rfl
  · rfl
theorem lput {S : Nat → Prop} {w : World} {b blocks : Nat} {G : List (Int → Bool)} (h : Lg S w b blocks G) (k : Nat) (hk : k < G.length) (x : Int) (hx : x = -1 ∨ (0 ≤ x ∧ x < (blocks : Int))) :
    Calls Tryz.prog 142 #[.pointer (some ⟨b, 0, none⟩), .int .i64 (k : Int), .int .i64 x] w fun e w' => e = .returned (.int .i64 0) ∧ Lg S w' b blocks (putG G k x) ∧ Upd S w w' := by
  obtain ⟨v, M, h, rfl, hS⟩ := h
  have hk' : k < M.length := by simpa using hk
  refine (lput_at h k hk' x hx).mono ?_
  rintro e w' ⟨rfl, h2, hu⟩
  refine ⟨rfl, ⟨v, _, h2, lg_modify hk' (fun A => putA A x), fun j hj => hS j ?_⟩, hu.mono (fun j _ hj => hS j (.inr (.inr (by rw [hj]; exact List.mem_map.2 ⟨M[k], List.getElem_mem hk', rfl⟩))))⟩
  rcases hj with hj | hj | hj
  · exact .inl hj
  · exact .inr (.inl hj)
  · rw [lg_set hk'] at hj; exact .inr (.inr hj)

set_option maxRecDepth 100000 in
theorem lscrub {S : Nat → Prop} {w : World} {b blocks : Nat} {G : List (Int → Bool)} (h : Lg S w b blocks G) (k : Nat) (hk : k < G.length) :
    Calls Tryz.prog 145 #[.pointer (some ⟨b, 0, none⟩), .int .i64 (k : Int)] w fun e w' => e = .returned (.int .i64 0) ∧ Lg S w' b blocks (scrubG G k) ∧ Upd S w w' := by
  obtain ⟨v, M, h, rfl, hS⟩ := h
  have hk' : k < M.length := by simpa using hk
  clear hk
  have hset := h.sets M[k] (List.getElem_mem hk')
  obtain ⟨w2, hr2, hs2, hu2, hz2⟩ := hset.clear
  have h2 := h.turn hk' hu2 hs2 (fun s hs => by simp at hs)
  have HE : Hid (Lg S w2 b blocks (scrubG (M.map (·.2)) k) ∧ Upd S w w2) := by
    refine ⟨⟨v, _, h2, lg_modify hk' (fun _ _ => false), fun j hj => hS j ?_⟩, hu2.mono (fun j _ hj => hS j (.inr (.inr (by rw [hj]; exact List.mem_map.2 ⟨M[k], List.getElem_mem hk', rfl⟩))))⟩
    rcases hj with hj | hj | hj
    · exact .inl hj
    · exact .inr (.inl hj)
    · rw [lg_set hk'] at hj; exact .inr (.inr hj)
  have hl := h.len
  obtain ⟨-, g1⟩ := h.c
  obtain ⟨g, off, cap, rfl, gk⟩ := h.at hk'
  have b1 : (0 : Int) ≤ (k : Int) := by omega
  have b2 : (k : Int) < (M.length : Int) := by omega
  have HP := Lib.hid h
  clear h hset hs2 hu2 hz2 h2 hS
  go_enter Tryz.func145, Tryz.ntmps145
  go_wp2_with (first
    | (go_at_call 159; refine (lhas_in HP.out k hk').mono ?_; rintro e w' ⟨rfl, rfl⟩)
    | fail)
  go_ret
  exact ⟨rfl, HE.out⟩
end Go.Proofs.YtdpoiaejhkfocaaGreatDoor

namespace Go.Proofs.YtdpoiaejhkfocaaGreatDoor
open Go Go.RowKit

theorem infoI07 : (Tryz.prog.info? 3).map (fun i => (i.zero, i.size, i.bytes)) = some (some (.int .i64 0), 1, 8) := by kernel_rfl
theorem one_ints (l : List Int) : ∀ u ∈ ints l, u.oneCell' = true := by intro u hu; simp only [ints, List.mem_map] at hu; obtain ⟨p, _, rfl⟩ := hu; rfl

set_option maxRecDepth 100000 in
/-- 'slices.Clone' of ints. -/
theorem cloneI_any {w : World} {v : Value} {l : List Int} (h : Rd w 1 v l.length (ints l)) (hle : l.length ≤ 4096) :
    Calls Tryz.prog 65 #[v] w fun e w' => ∃ v', e = .returned v' ∧ Sl w' 3 1 v' l.length (ints l) ∧ From w.heap.size v' ∧ Below w.heap.size w w' := by
  obtain ⟨i0, hi, hz0, hz1, hz2⟩ := info_parts infoI07
  have H := Lib.hid h
  obtain ⟨hl, hm, ao, c, rfl, h0, _⟩ := h
  have q34 := fun (w : World) (a : Option Addr) (n c : Nat) => Lib.run_eql_slice_nil (P := Tryz.prog) w 93 3 a n c 0 0 Tryz.underlying93
  cases ao with
  | none =>
    have hn := h0 rfl
    have hE : Hid (Sl w 3 1 (.slice none 0 0) l.length (ints l)) := by
      have : l = [] := List.length_eq_zero_iff.1 hn
      subst this; exact Sl.nil _ _ _
    clear h0 hl H hm
    go_enter Tryz.func65, Tryz.ntmps65
    go_wp2
    go_ret
    exact ⟨_, rfl, hE.out, From.nil _ _ _, Below.refl _ _⟩
  | some a =>
    clear h0 hl
    have hs0 : Sl (w.alloc (.cells #[] 3)) 3 1 (.slice (some ⟨w.heap.size, 0, none⟩) 0 0) 0 [] :=
      ⟨by simp, .inr ⟨w.heap.size, 0, 0, #[], rfl, heap_alloc_last _ _ rfl, by simp, by simp [maxLen], by simp, by simp⟩⟩
    have HR : Hid (Rd (w.alloc (.cells #[] 3)) 1 (.slice (some a) l.length c) l.length (ints l)) := H.out.keep ((Upd.refl (fun _ => False) _).alloc _) (fun _ _ h => h)
    have hone := one_ints l
    go_enter Tryz.func65, Tryz.ntmps65
    go_wp2_with (at_builtin; refine wpList_append_sl rfl _ _ 93 rfl i0 (.int .i64 0) 8 Tryz.underlying93 hi hz0 hz1 hz2 rfl (by decide) rfl hs0 _ l.length (ints l) rfl HR.out hone (by unfold maxLen; omega) (by omega) ?_)
    intro v' w2 hs2 hu2 hb2
    go_wp2
    go_ret
    refine ⟨_, rfl, by simpa using hs2, ?_, ?_⟩
    · exact hb2.ge (by simp) (by intro g hg; simp [Value.ownBlock] at hg; omega)
    · refine below_upd ((Below.refl _ _).alloc (Nat.le_refl _) _) hu2 (Nat.le_refl _) (by intro k hk; simp [ownS, Value.ownBlock] at hk; omega)

theorem getElem_erase (l : List Int) (i j : Nat) : (l.eraseIdx i)[j]? = if j < i then l[j]? else l[j + 1]? := by
  rw [List.getElem?_eraseIdx]

set_option maxRecDepth 100000 in
set_option maxHeartbeats 1000000 in
/-- 'slices.Delete' of one int. -/
theorem del_one {w : World} {v : Value} {l : List Int} (h : Sl w 3 1 v l.length (ints l)) (hle : l.length ≤ 4096) {i : Nat} (hi : i < l.length) :
    Calls Tryz.prog 165 #[v, .int .i64 i, .int .i64 ((i : Int) + 1)] w fun e w' => ∃ v', e = .returned v' ∧ v'.ownBlock = v.ownBlock ∧ Sl w' 3 1 v' (l.eraseIdx i).length (ints (l.eraseIdx i)) ∧ Upd (ownS v) w w' := by
  obtain ⟨i0, hi0, hz0, hz1, hz2⟩ := info_parts infoI07
  obtain ⟨hl, ⟨rfl, h0⟩ | ⟨g, off, cap, cur, rfl, hg, hn, hm, hs, hc⟩⟩ := h
  · omega
  have hlen : (l.eraseIdx i).length = l.length - 1 := List.length_eraseIdx_of_lt hi
  obtain ⟨news, hnews⟩ : ∃ news, news = ints (l.drop (i + 1)) := ⟨_, rfl⟩
  have hnl : news.length = l.length - (i + 1) := by rw [hnews]; simp
  have hg' : w.drew.heap[g]? = some (.cells cur 3 (0, 0)) := hg
  obtain ⟨A, hA, hsrc⟩ : ∃ A : Addr, (if cap = i + 1 then some (⟨g, off, none⟩ : Addr) else some ⟨g, off + (i + 1), none⟩) = some A ∧ Hid (∀ t u, news[t]? = some u → w.drew.cell? (A.add t) = some u) := by
    by_cases h : cap = i + 1
    · refine ⟨⟨g, off, none⟩, by simp [h], fun t u hu => ?_⟩
      have h0 : news.length = 0 := by omega
      rw [List.length_eq_zero_iff.1 h0] at hu
      simp at hu
    · refine ⟨⟨g, off + (i + 1), none⟩, by simp [h], fun t u hu => ?_⟩
      rw [Addr.add_lit, cell_of_block hg']
      rw [hnews] at hu
      have : (ints l)[i + 1 + t]? = some u := by
        rw [← hu]; simp [ints, List.getElem?_drop]
      rw [show off + (i + 1) + t = off + (i + 1 + t) by omega]
      exact hc _ _ this
  have s1 : Hid (news.length = (l.length - (i + 1)) * 1) := by rw [Nat.mul_one]; exact hnl
  have s2 : Hid (∀ u ∈ news, u.oneCell' = true) := by rw [hnews]; exact one_ints _
  have s3 : Hid (∀ t, t < news.length → (w.drew.cell? ⟨g, off + i * 1 + t, none⟩).isSome = true ∧ w.drew.frozen? ⟨g, off + i * 1 + t, none⟩ = false) := by
    intro t ht
    rw [cell_of_block hg', frozen_of_block hg']
    refine ⟨?_, rfl⟩
    rw [Array.getElem?_eq_getElem (by omega)]; rfl
  obtain ⟨cur1, hb1, hz1', hget1⟩ := heap_setCells_same news (off + i * 1) w.drew g cur 3 (0, 0) hg'
  obtain ⟨W1, hW1⟩ : ∃ W1, W1 = w.drew.setCells g (off + i * 1) news := ⟨_, rfl⟩
  rw [← hW1] at hb1
  have hk1 : ∀ t, t < l.length - (i + (l.length - (i + 1))) → (W1.cell? ⟨g, off + (i + (l.length - (i + 1))) + t, none⟩).isSome = true := by
    intro t ht
    rw [cell_of_block hb1, Array.getElem?_eq_getElem (by omega)]; rfl
  have hcl : ∀ ty, (Builtin.clear_ #[93] ty #[.slice (some ⟨g, off + (i + (l.length - (i + 1))), none⟩) (l.length - (i + (l.length - (i + 1)))) (cap - (i + (l.length - (i + 1))))]).run Tryz.prog W1 = .ok (.tuple #[]) (W1.setCells g (off + (i + (l.length - (i + 1)))) (List.replicate (l.length - (i + (l.length - (i + 1)))) (.int .i64 0))) :=
    fun ty => Lib.run_clear_slice W1 _ 3 ty (.int .i64 0) Tryz.underlying93 (fun w => Tryz.zeroValue3 w) rfl rfl g (off + (i + (l.length - (i + 1)))) _ _ (by omega) hk1 (fun t _ => frozen_of_block hb1 _)
  obtain ⟨cur2, hb2, hz2', hget2⟩ := heap_setCells_same (List.replicate (l.length - (i + (l.length - (i + 1)))) (Value.int .i64 0)) (off + (i + (l.length - (i + 1)))) W1 g cur1 3 (0, 0) hb1
  have hU : Upd (ownS (.slice (some ⟨g, off, none⟩) l.length cap)) w (W1.setCells g (off + (i + (l.length - (i + 1)))) (List.replicate (l.length - (i + (l.length - (i + 1)))) (.int .i64 0))) := by
    refine Upd.trans (b := W1) ?_ (upd_setCells _ _ _ _ _ rfl)
    rw [hW1]
    exact ((Upd.refl _ w).drew).trans (upd_setCells _ _ _ _ _ rfl)
  have hend : Sl (W1.setCells g (off + (i + (l.length - (i + 1)))) (List.replicate (l.length - (i + (l.length - (i + 1)))) (.int .i64 0))) 3 1 (.slice (some ⟨g, off, none⟩) (i + (l.length - (i + 1))) cap) (l.eraseIdx i).length (ints (l.eraseIdx i)) := by
    refine ⟨by simp, .inr ⟨g, off, cap, cur2, by rw [hlen, show i + (l.length - (i + 1)) = l.length - 1 by omega], hb2, by omega, hm, by omega, fun j u hu => ?_⟩⟩
    have hj := (List.getElem?_eq_some_iff.1 hu).1
    rw [length_ints, hlen] at hj
    rw [hget2, if_neg (by omega), hget1]
    simp only [ints, List.getElem?_map, getElem_erase] at hu
    by_cases hji : j < i
    · rw [if_neg (by omega)]
      rw [if_pos hji] at hu
      exact hc j u (by simpa [ints] using hu)
    · rw [if_neg hji] at hu
      rw [if_pos ⟨by omega, by omega, by omega⟩, hnews, show off + j - (off + i * 1) = j - i by omega]
      simp only [ints, List.getElem?_map, List.getElem?_drop]
      rw [show i + 1 + (j - i) = j + 1 by omega]; exact hu
  have HU := Lib.hid hU; have HE := Lib.hid hend
  have hW : Hid (W1 = w.drew.setCells g (off + i * 1) news) := hW1
  have hic : i ≤ cap := by omega
  have hjc : i + 1 ≤ cap := by omega
  have hj0 : (0 : Int) ≤ (i : Int) + 1 := by omega
  have hj1 : (i : Int) + 1 ≤ (l.length : Int) := by omega
  have hj2 : 0 ≤ (i : Int) + 1 ∧ (i : Int) + 1 ≤ (l.length : Int) := ⟨hj0, hj1⟩
  have hb : ((i : Int) == (i : Int) + 1) = false := by simp; omega
  clear hk1 hU hend hget2 hget1 hb2 hb1 hW1 hc hg hg' hnews hnl hs
  go_enter Tryz.func165, Tryz.ntmps165
  go_wp2_with fail
  go_region_law (refine step_append_room rfl (.tmp 22) (.tmp 25) 93 rfl 3 i0 1 Tryz.underlying93 hi0 hz1 g off i cap (by simp [Act.eval, Act.put]) A (l.length - (i + 1)) (cap - (i + 1)) news (by simp [Act.eval, Act.put]) s1.out hsrc.out s2.out (by omega) s3.out ?_; rw [← hW.out])
  go_wp2
  go_ret
  exact ⟨_, rfl, rfl, HE.out, HU.out⟩
end Go.Proofs.YtdpoiaejhkfocaaGreatDoor

namespace Go.Proofs.YtdpoiaejhkfocaaGreatDoor
open Go Go.RowKit

end Go.Proofs.YtdpoiaejhkfocaaGreatDoor
