/- A ledger in memory: New, has, hasAny, Put, Scrub. slices.Clone, slices.Delete of one at []int. slices.Grow of nil, slices.Concat of two, at []int. -/
import Derived.Test.YtnadilfobmgebaaGreatDoorG05
import Derived.Test.YtnadilfobmgebaaGreatDoorG01
import Derived.Deep.RegionLaw
import Derived.Lib.SliceRun
import Derived.Lib.AppendZeros
namespace Go.Proofs.YtnadilfobmgebaaGreatDoor
open Go Go.RowKit
abbrev LgC (M : List (Nat × (Int → Bool))) : List Value := M.map fun p => .map (some p.1)
structure LgAt (w : World) (b : Nat) (v : Value) (blocks : Nat) (M : List (Nat × (Int → Bool))) : Prop where
  str : w.heap[b]? = some (.cells #[.int .i64 blocks, v] 290 (0, 0))
  sl : Sl w 291 1 v M.length (LgC M)
  sets : ∀ p ∈ M, SetAt w p.1 4097 p.2
  nd : (M.map (·.1)).Nodup
  mb : ∀ p ∈ M, p.1 ≠ b ∧ v.ownBlock ≠ some p.1
  vb : v.ownBlock ≠ some b
  len : M.length ≤ 1024
  bl : 1 ≤ blocks ∧ blocks ≤ 4096
  rg : ∀ p ∈ M, ∀ s : Int, p.2 s = true → -1 ≤ s ∧ s < (blocks : Int)
def lgS (b : Nat) (v : Value) (M : List (Nat × (Int → Bool))) : Nat → Prop := fun j => j = b ∨ v.ownBlock = some j ∨ j ∈ M.map (·.1)
section
variable {w w' : World} {b blocks : Nat} {v : Value} {M : List (Nat × (Int → Bool))}
theorem LgAt.keep (h : LgAt w b v blocks M) {S : Nat → Prop} (hu : Upd S w w') (hs : ∀ j, lgS b v M j → ¬ S j) : LgAt w' b v blocks M :=
  { h with
    str := (hu.block _ (lt_of_block h.str) (hs b (.inl rfl))).trans h.str
    sl := h.sl.keep hu (fun g hg => hs g (.inr (.inl hg)))
    sets := fun p hp => (h.sets p hp).keep hu (hs p.1 (.inr (.inr (List.mem_map.2 ⟨p, hp, rfl⟩)))) }
theorem LgAt.new (h : LgAt w b v blocks M) (hu : Upd (fun _ => False) w w') : LgAt w' b v blocks M := h.keep hu (fun _ _ h => h)
theorem LgAt.slt (h : LgAt w b v blocks M) : ∀ j, lgS b v M j → j < w.heap.size := by
  rintro j (rfl | hj | hj)
  · exact lt_of_block h.str
  · exact h.sl.lt hj
  · obtain ⟨p, hp, rfl⟩ := List.mem_map.1 hj
    exact (h.sets p hp).lt
theorem LgAt.c (h : LgAt w b v blocks M) : w.cell? ⟨b, 0, none⟩ = some (.int .i64 blocks) ∧ w.cell? ⟨b, 1, none⟩ = some v := by
  refine ⟨?_, ?_⟩ <;> rw [cell_of_block h.str] <;> rfl
theorem LgAt.at (h : LgAt w b v blocks M) {k : Nat} (hk : k < M.length) : ∃ g off cap, v = .slice (some ⟨g, off, none⟩) M.length cap ∧ w.cell? ⟨g, off + k, none⟩ = some (.map (some M[k].1)) := by
  obtain ⟨g, off, cap, cur, rfl, hg, hs, hc⟩ := h.sl.at (by omega)
  refine ⟨g, off, cap, rfl, ?_⟩
  rw [cell_of_block hg]
  exact hc k _ (by simp [LgC, hk])
theorem lg_set {M : List (Nat × (Int → Bool))} {k : Nat} (hk : k < M.length) (A : Int → Bool) : (M.set k (M[k].1, A)).map (·.1) = M.map (·.1) := by
  apply List.ext_getElem (by simp)
  intro i h1 h2
  simp only [List.getElem_map, List.getElem_set]
  split
  · rename_i e; subst e; rfl
  · rfl
theorem lgC_set {M : List (Nat × (Int → Bool))} {k : Nat} (hk : k < M.length) (A : Int → Bool) : LgC (M.set k (M[k].1, A)) = LgC M := by
  have h : ∀ M : List (Nat × (Int → Bool)), LgC M = (M.map (·.1)).map fun b => Value.map (some b) := fun M => by simp [LgC]
  rw [h, h, lg_set hk]
theorem LgAt.turn (h : LgAt w b v blocks M) {k : Nat} (hk : k < M.length) (hu : Upd (fun j => j = M[k].1) w w') {A : Int → Bool} (hs : SetAt w' M[k].1 4097 A) (hr : ∀ s : Int, A s = true → -1 ≤ s ∧ s < (blocks : Int)) :
    LgAt w' b v blocks (M.set k (M[k].1, A)) := by
  have hmk := h.mb M[k] (List.getElem_mem hk)
  exact { h with
    str := (hu.block _ (lt_of_block h.str) (fun e => hmk.1 e.symm)).trans h.str
    sl := by rw [lgC_set hk, List.length_set]; exact h.sl.keep hu (fun g hg e => hmk.2 (by rw [hg, e]))
    sets := fun p hp => by
      obtain ⟨i, hi, rfl⟩ := List.getElem_of_mem hp
      simp only [List.length_set] at hi
      rw [List.getElem_set]
      split
      · exact hs
      · rename_i hne
        refine (h.sets _ (List.getElem_mem hi)).keep hu (fun e => hne ?_)
        have := (List.getElem_inj (i := i) (j := k) (h₀ := by simpa using hi) (h₁ := by simpa using hk) h.nd).1 (by simpa using e)
        exact this.symm
    nd := by rw [lg_set hk]; exact h.nd
    mb := fun p hp => by
      have : p.1 ∈ (M.set k (M[k].1, A)).map (·.1) := List.mem_map.2 ⟨p, hp, rfl⟩
      rw [lg_set hk] at this
      obtain ⟨q, hq, hqe⟩ := List.mem_map.1 this
      rw [← hqe]; exact h.mb q hq
    len := by rw [List.length_set]; exact h.len
    rg := fun p hp s hps => by
      obtain ⟨i, hi, rfl⟩ := List.getElem_of_mem hp
      simp only [List.length_set] at hi
      rw [List.getElem_set] at hps
      split at hps
      · exact hr s hps
      · exact h.rg _ (List.getElem_mem hi) s hps }
end
def Lg (S : Nat → Prop) (w : World) (b blocks : Nat) (G : List (Int → Bool)) : Prop := ∃ v M, LgAt w b v blocks M ∧ M.map (·.2) = G ∧ ∀ j, lgS b v M j → S j
theorem Lg.thing (b blocks : Nat) (G : List (Int → Bool)) : Thing (fun S w => Lg S w b blocks G) where
  keep := fun h hu hs => by
    obtain ⟨v, M, h, hG, hS⟩ := h
    exact ⟨v, M, h.keep hu (fun j hj => hs j (hS j hj)), hG, hS⟩
  out := fun h hs => by
    obtain ⟨v, M, h, hG, hS⟩ := h
    exact ⟨v, M, h, hG, fun j hj => hs j (h.slt j hj) (hS j hj)⟩
theorem lhas_in {w : World} {b blocks : Nat} {v : Value} {M : List (Nat × (Int → Bool))} (h : LgAt w b v blocks M) (k : Nat) (hk : k < M.length) :
    Calls Tryz.prog 222 #[.pointer (some ⟨b, 0, none⟩), .int .i64 (k : Int)] w fun e w' => e = .returned (.int .i64 0) ∧ w = w' := by
  obtain ⟨-, g1⟩ := h.c
  obtain ⟨g, off, cap, rfl, -⟩ := h.at hk
  have hl := h.len
  have q1 : decide ((k : Int) < 0) = false := by simp
  have q2 : decide ((k : Int) ≥ (M.length : Int)) = false := by simp; omega
  have q3 : decide ((M.length : Int) ≤ (k : Int)) = false := by simp; omega
  have q4 : decide (M.length ≤ k) = false := by simp; omega
  clear h
  go_enter Tryz.func222, Tryz.ntmps222
  go_wp2
  go_ret
  exact ⟨rfl, rfl⟩
theorem lany {w : World} {mb N : Nat} {A : Int → Bool} (h : SetAt w mb N A) :
    Calls Tryz.prog 223 #[.map (some mb)] w fun e w' => e = .returned (.bool (A (-1))) ∧ Below w.heap.size w w' := by
  have hl := h.look (x := -1) (by unfold InR; omega)
  clear h
  go_enter Tryz.func223, Tryz.ntmps223
  go_wp2
  go_ret
  exact ⟨rfl, (Below.refl _ _).alloc (Nat.le_refl _) _⟩
def putA (A : Int → Bool) (x : Int) : Int → Bool := if x ≠ -1 ∧ A (-1) = true then A else updB (if x = -1 then fun _ => false else A) x true
theorem putA_rg {A : Int → Bool} {x : Int} {n : Nat} (hA : ∀ s : Int, A s = true → -1 ≤ s ∧ s < (n : Int)) (hx : x = -1 ∨ 0 ≤ x ∧ x < (n : Int)) (hn : 1 ≤ n) : ∀ s : Int, putA A x s = true → -1 ≤ s ∧ s < (n : Int) := by
  intro s hs
  unfold putA at hs
  split at hs
  · exact hA s hs
  · unfold updB at hs
    split at hs
    · omega
    · split at hs
      · simp at hs
      · exact hA s hs
def PutL (w : World) (b blocks : Nat) (v : Value) (M : List (Nat × (Int → Bool))) (k : Nat) (hk : k < M.length) (A : Int → Bool) (e : Ending) (w' : World) : Prop :=
  e = .returned (.int .i64 0) ∧ LgAt w' b v blocks (M.set k (M[k].1, A)) ∧ Upd (fun j => j = M[k].1) w w'
set_option maxRecDepth 100000 in
theorem lput_at {w : World} {b blocks : Nat} {v : Value} {M : List (Nat × (Int → Bool))} (h : LgAt w b v blocks M) (k : Nat) (hk : k < M.length) (x : Int) (hx : x = -1 ∨ (0 ≤ x ∧ x < (blocks : Int))) :
    Calls Tryz.prog 190 #[.pointer (some ⟨b, 0, none⟩), .int .i64 (k : Int), .int .i64 x] w (PutL w b blocks v M k hk (putA M[k].2 x)) := by
  have hmap : LgAt w b v blocks (M.set k (M[k].1, M[k].2)) := by
    have : M.set k (M[k].1, M[k].2) = M := by apply List.ext_getElem (by simp); intro i h1 h2; rw [List.getElem_set]; split; (rename_i e; subst e; rfl); rfl
    rw [this]; exact h
  have hset := h.sets M[k] (List.getElem_mem hk)
  have hrg := h.rg M[k] (List.getElem_mem hk)
  have hbl := h.bl
  have hl := h.len
  obtain ⟨g0, g1⟩ := h.c
  obtain ⟨g, off, cap, rfl, gk⟩ := h.at hk
  have b1 : (0 : Int) ≤ (k : Int) := by omega
  have b2 : (k : Int) < (M.length : Int) := by omega
  have hrg2 := putA_rg hrg hx hbl.1
  have HP := Lib.hid (And.intro hmap (And.intro hset (And.intro hrg (And.intro h hrg2))))
  clear hmap hset hrg h hrg2
  by_cases h1 : x = -1
  · have e1 : putA M[k].2 x = updB (fun _ => false) x true := by unfold putA; rw [if_neg (fun h => h.1 h1), if_pos h1]
    rw [e1] at HP ⊢
    subst h1
    clear e1 hx
    obtain ⟨w2, hr2, hs2, hu2, hz2⟩ := (HP.out.2.1).clear
    obtain ⟨w3, hr3, hs3, hu3, hz3⟩ := hs2.store (x := -1) (by unfold InR; omega) (by unfold maxLen; omega)
    have HE : Hid (PutL w b blocks (.slice (some ⟨g, off, none⟩) M.length cap) M k hk (updB (fun _ => false) (-1) true) (.returned (.int .i64 0)) w3) :=
      ⟨rfl, HP.out.2.2.2.1.turn hk (hu2.trans hu3) ((hs3.tight blocks HP.out.2.2.2.2).mono (by omega)) HP.out.2.2.2.2, hu2.trans hu3⟩
    clear hs2 hu2 hz2 hs3 hu3 hz3
    go_enter Tryz.func190, Tryz.ntmps190
    go_wp2_with (first
      | (go_at_call 222; refine (lhas_in HP.out.2.2.2.1 k hk).mono ?_; rintro e w' ⟨rfl, rfl⟩)
      | fail)
    go_ret
    exact HE.out
  · have hx' : 0 ≤ x ∧ x < (blocks : Int) := hx.resolve_left h1
    obtain ⟨c1, c2⟩ := hx'
    have q1 : (x != -1) = true := by rw [bne_iff_ne]; exact h1
    have q2 : decide (x < 0) = false := by simp; omega
    have q3 : decide (x ≥ (blocks : Int)) = false := by simp; omega
    have q4 : decide ((blocks : Int) ≤ x) = false := by simp; omega
    have q5 : (x == -1) = false := by rw [beq_eq_false_iff_ne]; exact h1
    by_cases h2 : M[k].2 (-1) = true
    · have e1 : putA M[k].2 x = M[k].2 := by unfold putA; rw [if_pos ⟨h1, h2⟩]
      rw [e1] at HP ⊢
      have hany : Calls Tryz.prog 223 #[.map (some M[k].1)] w fun e w' => e = .returned (.bool true) ∧ Below w.heap.size w w' := (lany HP.out.2.1).mono (fun e w' h => ⟨by rw [h.1, h2], h.2⟩)
      clear e1 hx h1 h2
      go_enter Tryz.func190, Tryz.ntmps190
      go_wp2_with (first
        | (go_at_call 222; refine (lhas_in HP.out.2.2.2.1 k hk).mono ?_; rintro e w' ⟨rfl, rfl⟩)
        | (go_at_call 223; refine hany.mono ?_; rintro e w1 ⟨rfl, hb1⟩)
        | fail)
      go_ret
      exact ⟨rfl, HP.out.1.new (Upd.of_below hb1), Upd.of_below hb1⟩
    · have e1 : putA M[k].2 x = updB M[k].2 x true := by unfold putA; rw [if_neg (fun h => h2 h.2), if_neg h1]
      rw [e1] at HP ⊢
      have h2' : M[k].2 (-1) = false := by simpa using h2
      have hany : Calls Tryz.prog 223 #[.map (some M[k].1)] w fun e w' => e = .returned (.bool false) ∧ Below w.heap.size w w' := (lany HP.out.2.1).mono (fun e w' h => ⟨by rw [h.1, h2'], h.2⟩)
      clear e1 hx h1 h2 h2'
      go_enter Tryz.func190, Tryz.ntmps190
      go_wp2_with (first
        | (go_at_call 222; refine (lhas_in HP.out.2.2.2.1 k hk).mono ?_; rintro e w' ⟨rfl, rfl⟩)
        | fail)
      refine hany.mono ?_
      rintro e w1 ⟨rfl, hb1⟩
      have hu1 : Upd (fun _ => False) w w1 := Upd.of_below hb1
      have h1 := HP.out.2.2.2.1.new hu1
      obtain ⟨w3, hr3, hs3, hu3, hz3⟩ := (HP.out.2.1.keep hu1 (fun h => h)).store (x := x) (by unfold InR; omega) (by unfold maxLen; omega)
      have HE : Hid (PutL w b blocks (.slice (some ⟨g, off, none⟩) M.length cap) M k hk (updB M[k].2 x true) (.returned (.int .i64 0)) w3) :=
        ⟨rfl, h1.turn hk hu3 ((hs3.tight blocks HP.out.2.2.2.2).mono (by omega)) HP.out.2.2.2.2, (hu1.mono (fun _ _ h => h.elim)).trans hu3⟩
      clear hs3 hu3 hz3 h1 hu1 hb1
      go_wp2
      go_ret
      exact HE.out
def putG (G : List (Int → Bool)) (k : Nat) (x : Int) : List (Int → Bool) := G.modify k (fun A => putA A x)
theorem lg_modify {M : List (Nat × (Int → Bool))} {k : Nat} (hk : k < M.length) (f : (Int → Bool) → Int → Bool) : (M.set k (M[k].1, f M[k].2)).map (·.2) = (M.map (·.2)).modify k f := by
  apply List.ext_getElem (by simp)
  intro i h1 h2
  simp only [List.getElem_map, List.getElem_set, List.getElem_modify]
  split
  · rename_i e; subst e; rfl
  · rfl
theorem lput {S : Nat → Prop} {w : World} {b blocks : Nat} {G : List (Int → Bool)} (h : Lg S w b blocks G) (k : Nat) (hk : k < G.length) (x : Int) (hx : x = -1 ∨ (0 ≤ x ∧ x < (blocks : Int))) :
    Calls Tryz.prog 190 #[.pointer (some ⟨b, 0, none⟩), .int .i64 (k : Int), .int .i64 x] w fun e w' => e = .returned (.int .i64 0) ∧ Lg S w' b blocks (putG G k x) ∧ Upd S w w' := by
  obtain ⟨v, M, h, rfl, hS⟩ := h
  have hk' : k < M.length := by simpa using hk
  refine (lput_at h k hk' x hx).mono ?_
  rintro e w' ⟨rfl, h2, hu⟩
  refine ⟨rfl, ⟨v, _, h2, lg_modify hk' (fun A => putA A x), fun j hj => hS j ?_⟩, hu.mono (fun j _ hj => hS j (.inr (.inr (by rw [hj]; exact List.mem_map.2 ⟨M[k], List.getElem_mem hk', rfl⟩))))⟩
  rcases hj with hj | hj | hj
  · exact .inl hj
  · exact .inr (.inl hj)
  · rw [lg_set hk'] at hj; exact .inr (.inr hj)
end Go.Proofs.YtnadilfobmgebaaGreatDoor
