/- The plain law of places: which block is at a slot. -/
import Derived.Test.YtmgcekpfnkcmjaaBase
namespace Go.Proofs.Ytmgcekpfnkcmjaa

/-- f with another answer at s. -/
def upd1 (f : Int → Option Nat) (s : Int) (o : Option Nat) : Int → Option Nat := fun x => if x = s then o else f x

/-- The block at a slot. -/
def atOf (ps : List (Int × Bool)) (s : Int) : Option Nat := if s < 0 then none else ps.findIdx? (fun p => p.1 == s)

structure Good (ps : List (Int × Bool)) (slots : Nat) : Prop where
  each : ∀ k (h : k < ps.length), ps[k] = (-1, false) ∨ (0 ≤ ps[k].1 ∧ ps[k].1 < slots)
  inj : ∀ i j (hi : i < ps.length) (hj : j < ps.length), 0 ≤ ps[i].1 → ps[i].1 = ps[j].1 → i = j

theorem atOf_some {ps : List (Int × Bool)} {s : Int} {k : Nat} (h : atOf ps s = some k) : 0 ≤ s ∧ ∃ h : k < ps.length, ps[k].1 = s := by
  unfold atOf at h
  split at h
  · cases h
  · rw [List.findIdx?_eq_some_iff_getElem] at h
    obtain ⟨hk, h1, _⟩ := h
    exact ⟨by omega, hk, by simpa using h1⟩

theorem atOf_none {ps : List (Int × Bool)} {s : Int} (h : atOf ps s = none) (hs : 0 ≤ s) {k : Nat} (hk : k < ps.length) : ps[k].1 ≠ s := by
  unfold atOf at h
  rw [if_neg (by omega), List.findIdx?_eq_none_iff] at h
  have := h ps[k] (List.getElem_mem hk)
  simpa using this

theorem Good.at {ps : List (Int × Bool)} {slots : Nat} (h : Good ps slots) {k : Nat} (hk : k < ps.length) (h0 : 0 ≤ ps[k].1) : atOf ps ps[k].1 = some k := by
  cases ha : atOf ps ps[k].1 with
  | none => exact absurd rfl (atOf_none ha h0 hk)
  | some j =>
    obtain ⟨_, hj, he⟩ := atOf_some ha
    rw [h.inj k j hk hj h0 he.symm]

theorem Good.iff {ps : List (Int × Bool)} {slots : Nat} (h : Good ps slots) {s : Int} {k : Nat} : atOf ps s = some k ↔ 0 ≤ s ∧ ∃ h : k < ps.length, ps[k].1 = s :=
  ⟨atOf_some, fun ⟨h0, hk, he⟩ => by subst he; exact h.at hk h0⟩

theorem opt_ext {α : Type} {o p : Option α} (h : ∀ a, o = some a ↔ p = some a) : o = p := by
  cases o with
  | none => cases p with
    | none => rfl
    | some b => exact absurd ((h b).2 rfl) (by simp)
  | some a => exact ((h a).1 rfl).symm

theorem Good.start (n slots : Nat) : Good (List.replicate n (-1, false)) slots :=
  ⟨fun k h => .inl (by simp), fun i j hi hj h0 _ => by simp at h0⟩
theorem atOf_start (n : Nat) : atOf (List.replicate n (-1, false)) = fun _ => none := by
  funext s
  cases h : atOf (List.replicate n (-1, false)) s with
  | none => rfl
  | some k =>
    obtain ⟨h0, hk, he⟩ := atOf_some h
    simp at he
    omega

section
variable {ps : List (Int × Bool)} {slots k : Nat}

theorem Good.drop (h : Good ps slots) (k : Nat) : Good (ps.set k (-1, false)) slots := by
  refine ⟨fun i hi => ?_, fun i j hi hj h0 he => ?_⟩
  · rw [List.getElem_set]
    split
    · exact .inl rfl
    · exact h.each i (by simpa using hi)
  · rw [List.getElem_set] at h0 he
    rw [List.getElem_set] at he
    by_cases h1 : k = i
    · simp [h1] at h0
    · by_cases h2 : k = j
      · rw [if_neg h1, if_pos h2] at he
        rw [if_neg h1] at h0
        simp at he
        omega
      · rw [if_neg h1, if_neg h2] at he
        rw [if_neg h1] at h0
        exact h.inj i j (by simpa using hi) (by simpa using hj) h0 he

theorem Good.atOf_drop (h : Good ps slots) (hk : k < ps.length) : atOf (ps.set k (-1, false)) = upd1 (atOf ps) ps[k].1 none := by
  funext s
  refine opt_ext fun a => ?_
  rw [(h.drop k).iff]
  unfold upd1
  constructor
  · rintro ⟨h0, ha, he⟩
    rw [List.getElem_set] at he
    split at he
    · simp at he; omega
    · rename_i hne
      have ha' : a < ps.length := by simpa using ha
      subst he
      split
      · rename_i e
        exact absurd (h.inj a k ha' hk h0 e) (fun e => hne e.symm)
      · exact h.at ha' h0
  · intro e
    split at e
    · cases e
    · rename_i hne
      obtain ⟨h0, ha, he⟩ := atOf_some e
      refine ⟨h0, by simpa using ha, ?_⟩
      rw [List.getElem_set]
      split
      · rename_i e2
        subst e2
        exact absurd he.symm hne
      · exact he

/-- May a block be put at a slot? -/
def mayPut (ps : List (Int × Bool)) (k : Nat) (s : Int) : Prop := atOf ps s = none ∨ atOf ps s = some k

theorem mayPut_ne (h : Good ps slots) {s : Int} (hm : mayPut ps k s) (h0 : 0 ≤ s) {i : Nat} (hi : i < ps.length) (hne : i ≠ k) : ps[i].1 ≠ s := by
  rcases hm with hm | hm
  · exact atOf_none hm h0 hi
  · intro e
    subst e
    have := h.at hi h0
    rw [this] at hm
    exact hne (by injection hm)

theorem Good.put (h : Good ps slots) (_ : k < ps.length) {s : Int} (d : Bool) (h0 : 0 ≤ s) (h1 : s < slots) (hm : mayPut ps k s) : Good (ps.set k (s, d)) slots := by
  refine ⟨fun i hi => ?_, fun i j hi hj h2 he => ?_⟩
  · rw [List.getElem_set]
    split
    · exact .inr ⟨h0, h1⟩
    · exact h.each i (by simpa using hi)
  · have hi' : i < ps.length := by simpa using hi
    have hj' : j < ps.length := by simpa using hj
    rw [List.getElem_set] at h2 he
    rw [List.getElem_set] at he
    by_cases e1 : k = i
    · by_cases e2 : k = j
      · exact e1.symm.trans e2
      · rw [if_pos e1, if_neg e2] at he
        exact absurd he.symm (mayPut_ne h hm h0 hj' (fun e => e2 e.symm))
    · by_cases e2 : k = j
      · rw [if_neg e1, if_pos e2] at he
        exact absurd he (mayPut_ne h hm h0 hi' (fun e => e1 e.symm))
      · rw [if_neg e1, if_neg e2] at he
        rw [if_neg e1] at h2
        exact h.inj i j hi' hj' h2 he

theorem Good.atOf_put (h : Good ps slots) (hk : k < ps.length) {s : Int} (d : Bool) (h0 : 0 ≤ s) (h1 : s < slots) (hm : mayPut ps k s) : atOf (ps.set k (s, d)) = upd1 (upd1 (atOf ps) ps[k].1 none) s (some k) := by
  funext x
  refine opt_ext fun a => ?_
  rw [(h.put hk d h0 h1 hm).iff]
  simp only [upd1]
  constructor
  · rintro ⟨hx, ha, he⟩
    have ha' : a < ps.length := by simpa using ha
    rw [List.getElem_set] at he
    by_cases e : k = a
    · rw [if_pos e] at he
      simp at he
      rw [if_pos he.symm, e]
    · rw [if_neg e] at he
      subst he
      rw [if_neg (mayPut_ne h hm h0 ha' (fun e' => e e'.symm))]
      split
      · rename_i e3
        exact absurd (h.inj a k ha' hk hx e3) (fun e' => e e'.symm)
      · exact h.at ha' hx
  · intro e
    by_cases hxs : x = s
    · rw [if_pos hxs] at e
      cases e
      refine ⟨by omega, by simpa using hk, ?_⟩
      rw [List.getElem_set, if_pos rfl]
      exact hxs.symm
    · rw [if_neg hxs] at e
      split at e
      · cases e
      · rename_i hne
        obtain ⟨hx, ha, he⟩ := atOf_some e
        refine ⟨hx, by simpa using ha, ?_⟩
        rw [List.getElem_set]
        split
        · rename_i e2
          subst e2
          exact absurd he.symm hne
        · exact he

theorem Good.clean (h : Good ps slots) (hk : k < ps.length) (h0 : 0 ≤ ps[k].1) : Good (ps.set k (ps[k].1, false)) slots := by
  refine ⟨fun i hi => ?_, fun i j hi hj h2 he => ?_⟩
  · rw [List.getElem_set]
    split
    · rcases h.each k hk with e | e
      · rw [e] at h0; simp at h0
      · exact .inr e
    · exact h.each i (by simpa using hi)
  · have e1 : ∀ (x : Nat) (hx : x < (ps.set k (ps[k].1, false)).length), ((ps.set k (ps[k].1, false))[x]).1 = (ps[x]'(by simpa using hx)).1 := by
      intro x hx
      rw [List.getElem_set]
      split
      · rename_i e; subst e; rfl
      · rfl
    rw [e1] at h2 he
    rw [e1] at he
    exact h.inj i j (by simpa using hi) (by simpa using hj) h2 he

theorem Good.atOf_clean (h : Good ps slots) (hk : k < ps.length) (h0 : 0 ≤ ps[k].1) : atOf (ps.set k (ps[k].1, false)) = atOf ps := by
  funext x
  refine opt_ext fun a => ?_
  rw [(h.clean hk h0).iff, h.iff]
  have e1 : ∀ (x : Nat) (hx : x < (ps.set k (ps[k].1, false)).length), ((ps.set k (ps[k].1, false))[x]).1 = (ps[x]'(by simpa using hx)).1 := by
    intro x hx
    rw [List.getElem_set]
    split
    · rename_i e; subst e; rfl
    · rfl
  constructor
  · rintro ⟨hx, ha, he⟩
    rw [e1] at he
    exact ⟨hx, by simpa using ha, he⟩
  · rintro ⟨hx, ha, he⟩
    exact ⟨hx, by simpa using ha, by rw [e1]; exact he⟩
end
end Go.Proofs.Ytmgcekpfnkcmjaa
