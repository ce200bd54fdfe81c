/- The plain law of Evict: what goes, and what is left. -/
import Derived.Test.YtmgcekpfnkcmjaaEvict0
namespace Go.Proofs.Ytmgcekpfnkcmjaa
open Go Go.RowKit

/-- Ghosts, as many as there may be. -/
def trimG (few : Nat) (L : List Int) : List Int := if few < L.length then L.tail else L
/-- Those that are left, from the hand on. -/
def restK (K : List Int) (i : Nat) : List Int := K.drop (i + 1) ++ K.take i

structure EvYes (s : Int) (few : Nat) (K : List Int) (A : Int → Bool) (G : List Int) (key : Int) (K' : List Int) (A' : Int → Bool) (G' : List Int) : Prop where
  ex : ∃ i, ∃ h : i < K.length, key = K[i] ∧ K' = restK K i ∧ ((∀ x, K.head? = some x → mayB s x = true ∧ A x = false) → i = 0 ∧ A' = A) ∧ ((i = 0 ∧ A' = A) ∨ 1 ≤ i ∨ ∀ x ∈ K, mayB s x = false ∨ A x = true) ∧ ∀ j (hj : j < K.length), j < i → mayB s K[j] = true → A' K[j] = false
  gh : G' = trimG few (G ++ [key])
  out : A' key = false
  sub : ∀ x, A' x = true → A x = true

/-- What Evict leaves. -/
def EvOut (s : Int) (few : Nat) (K : List Int) (A : Int → Bool) (G : List Int) (key code : Int) (K' : List Int) (A' : Int → Bool) (G' : List Int) : Prop :=
  (code = 14 ∧ key = 0 ∧ K' = K ∧ A' = A ∧ G' = G ∧ ∀ x ∈ K, mayB s x = false ∨ A x = true) ∨ (code = 0 ∧ EvYes s few K A G key K' A' G')

theorem restK_perm {K : List Int} {i : Nat} (h : i < K.length) : (K[i] :: restK K i).Perm K := by
  unfold restK
  have e : K = K.take i ++ K[i] :: K.drop (i + 1) := by simp
  have h1 : (K[i] :: (K.drop (i + 1) ++ K.take i)).Perm (K.take i ++ K[i] :: K.drop (i + 1)) := by
    exact List.perm_append_comm (l₁ := K[i] :: K.drop (i + 1)) (l₂ := K.take i)
  rw [← e] at h1
  exact h1
theorem restK_len {K : List Int} {i : Nat} (h : i < K.length) : (restK K i).length + 1 = K.length := by
  have := (restK_perm h).length_eq
  simpa using this
theorem trimG_len (few : Nat) (L : List Int) (h : L.length ≤ few + 1) : (trimG few L).length ≤ few := by
  unfold trimG
  split
  · rw [List.length_tail]; omega
  · omega
theorem trimG_mem {few : Nat} {L : List Int} {x : Int} (h : x ∈ trimG few L) : x ∈ L := by
  unfold trimG at h
  split at h
  · exact List.mem_of_mem_tail h
  · exact h
theorem trimG_nodup {few : Nat} {L : List Int} (h : L.Nodup) : (trimG few L).Nodup := by
  unfold trimG
  split
  · exact h.sublist (List.tail_sublist L)
  · exact h

theorem CkGood.evict {most few : Nat} {K G K' G' : List Int} {A A' : Int → Bool} {s key : Int} (h : CkGood most few K A G) (hy : EvYes s few K A G key K' A' G') : CkGood most few K' A' G' := by
  obtain ⟨i, hi, rfl, rfl, _, _, _⟩ := hy.ex
  have hp := restK_perm hi
  have hnd : (K[i] :: restK K i).Nodup := hp.nodup_iff.2 h.kd
  have hmem : ∀ x, x ∈ restK K i → x ∈ K := fun x hx => hp.mem_iff.1 (List.mem_cons_of_mem _ hx)
  have hlen := restK_len hi
  have hgh := hy.gh
  subst hgh
  exact {
    kr := fun x hx => h.kr x (hmem x hx)
    gr := fun x hx => by
      rcases List.mem_append.1 (trimG_mem hx) with h1 | h1
      · exact h.gr x h1
      · simp at h1; exact h1 ▸ h.kr _ (List.getElem_mem hi)
    kd := (List.nodup_cons.1 hnd).2
    gd := trimG_nodup (by
      rw [List.nodup_append]
      refine ⟨h.gd, by simp, fun x hx y hy e => ?_⟩
      simp at hy; subst hy; subst e
      exact h.dis _ (List.getElem_mem hi) hx)
    dis := fun x hx hg => by
      rcases List.mem_append.1 (trimG_mem hg) with h1 | h1
      · exact h.dis x (hmem x hx) h1
      · simp at h1; subst h1
        exact (List.nodup_cons.1 hnd).1 hx
    ask := fun x hx => by
      have h1 := h.ask x (hy.sub x hx)
      rcases List.mem_cons.1 (hp.mem_iff.2 h1) with h2 | h2
      · subst h2; rw [hy.out] at hx; cases hx
      · exact h2
    kl := by have := h.kl; omega
    gl := trimG_len _ _ (by have := h.gl; simp; omega)
    ml := h.ml
    fl := h.fl
    m1 := h.m1 }
theorem EvOut.good {most few : Nat} {K G K' G' : List Int} {A A' : Int → Bool} {s key code : Int} (h : CkGood most few K A G) (ho : EvOut s few K A G key code K' A' G') : CkGood most few K' A' G' := by
  rcases ho with ⟨_, _, rfl, rfl, rfl, _⟩ | ⟨_, hy⟩
  · exact h
  · exact h.evict hy
end Go.Proofs.Ytmgcekpfnkcmjaa
