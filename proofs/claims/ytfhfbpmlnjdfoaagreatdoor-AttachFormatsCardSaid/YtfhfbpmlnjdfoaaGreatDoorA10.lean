/- attach.Apply: the plain side. A goal at which a walk stops. What a function answers that is handed in (guard), for a log's things. A log: number, New, Len. -/
import Derived.Test.YtfhfbpmlnjdfoaaGreatDoorA02
import Derived.Test.YtfhfbpmlnjdfoaaGreatDoorA07
import Derived.Test.YtfhfbpmlnjdfoaaGreatDoorA09
import Derived.Test.YtfhfbpmlnjdfoaaGreatDoorA01
import Derived.Defers
import Derived.Recover
namespace Go.Proofs.YtfhfbpmlnjdfoaaGreatDoor
open Go Go.RowKit
structure EI where
  b : Int
  s : Int
  d : Bool
  x : Int
def EI.cs (e : EI) : List Value := [.int .i64 e.b, .int .i64 e.s, .bool e.d, .int .i64 e.x]
def EI.enc (e : EI) : Value := .agg e.cs.toArray
theorem EI.enc_inj (x y : EI) (h : x.enc = y.enc) : x = y := by
  obtain ⟨a, b, c, d⟩ := x
  obtain ⟨a', b', c', d'⟩ := y
  simp only [EI.enc, EI.cs, Value.agg.injEq] at h
  obtain ⟨rfl, rfl, rfl, rfl⟩ := h
  rfl
theorem EI.one (e : EI) : ∀ v ∈ e.cs, v.oneCell' = true := by
  intro v hv
  simp only [EI.cs, List.mem_cons, List.not_mem_nil, or_false] at hv
  rcases hv with rfl | rfl | rfl | rfl <;> rfl
def EI.zero : EI := ⟨0, 0, false, 0⟩
def I64 (x : Int) : Prop := -9223372036854775808 ≤ x ∧ x < 9223372036854775808
def apPut (f : Int → Option EI) (e : EI) : Int → Option EI := fun s => if s = e.b then some e else f s
def apM (l : List EI) : Int → Option EI := l.foldl apPut (fun _ => none)
theorem apM_snoc (l : List EI) (e : EI) : apM (l ++ [e]) = apPut (apM l) e := by simp [apM, List.foldl_append]
theorem apM_take (l : List EI) {k : Nat} (hk : k < l.length) : apM (l.take (k + 1)) = apPut (apM (l.take k)) l[k] := by
  rw [List.take_succ_eq_append_getElem hk, apM_snoc]
def AtB (f : Int → Option EI) : Prop := ∀ s e, f s = some e → e.b = s
theorem apM_go (l : List EI) : ∀ f, AtB f → AtB (l.foldl apPut f) ∧ ∀ s, ((l.foldl apPut f) s).isSome = true ↔ s ∈ l.map EI.b ∨ (f s).isSome = true := by
  induction l with
  | nil => intro f h; exact ⟨h, fun s => by simp⟩
  | cons e l ih =>
    intro f h
    have h' : AtB (apPut f e) := by
      intro s e' he
      unfold apPut at he
      split at he
      · rename_i hs; cases he; exact hs.symm
      · exact h s e' he
    refine ⟨(ih _ h').1, fun s => ?_⟩
    rw [List.foldl_cons, (ih _ h').2 s, List.map_cons, List.mem_cons]
    unfold apPut
    by_cases hs : s = e.b
    · simp [hs]
    · simp [hs]
theorem apM_at (l : List EI) : AtB (apM l) := (apM_go l _ (fun s e h => by cases h)).1
theorem apM_some (l : List EI) (s : Int) : (apM l s).isSome = true ↔ s ∈ l.map EI.b := by
  have := (apM_go l (fun _ => none) (fun s e h => by cases h)).2 s
  simpa [apM] using this
theorem nodup_snoc {l : List EI} {k : Nat} (hk : k < l.length) (hn : ((l.take k).map EI.b).Nodup) (h : (apM (l.take k) l[k].b).isSome = false) : ((l.take (k + 1)).map EI.b).Nodup := by
  rw [List.take_succ_eq_append_getElem hk, List.map_append, List.nodup_append]
  refine ⟨hn, by simp, fun a ha b hb e => ?_⟩
  simp only [List.map_cons, List.map_nil, List.mem_singleton] at hb
  subst hb
  rw [e] at ha
  have := (apM_some _ _).2 ha
  rw [h] at this
  cases this
theorem nodup_not {l : List EI} {k : Nat} (hk : k < l.length) (h : (apM (l.take k) l[k].b).isSome = true) : ¬ (l.map EI.b).Nodup := by
  intro hn
  have h1 := (apM_some _ _).1 h
  rw [← List.take_append_drop k l, List.map_append, List.nodup_append] at hn
  exact hn.2.2 _ h1 _ (List.mem_map_of_mem (by rw [List.drop_eq_getElem_cons hk]; exact List.mem_cons_self)) rfl
def recE (r : List Int) : EI := ⟨r.getD 3 0, r.getD 4 0, r.getD 5 0 == 1, r.getD 6 0⟩
def apR (f : Int → Option EI) (r : List Int) : Int → Option EI := fun s => if s = r.getD 3 0 then (if r.getD 2 0 = 0 then some (recE r) else none) else f s
def apRs (f : Int → Option EI) (rs : List (List Int)) : Int → Option EI := rs.foldl apR f
theorem apRs_take (f : Int → Option EI) (rs : List (List Int)) {k : Nat} (hk : k < rs.length) : apRs f (rs.take (k + 1)) = apR (apRs f (rs.take k)) rs[k] := by
  rw [List.take_succ_eq_append_getElem hk]; unfold apRs; rw [List.foldl_append]; rfl
theorem apRs_at (rs : List (List Int)) : ∀ f, AtB f → AtB (apRs f rs) := by
  induction rs with
  | nil => intro f h; exact h
  | cons r rs ih =>
    intro f h
    refine ih _ (fun s e he => ?_)
    unfold apR at he
    split at he
    · rename_i hs
      split at he
      · cases he; exact hs.symm
      · cases he
    · exact h s e he
theorem apM_all {p : EI → Prop} (l : List EI) : ∀ f, (∀ s e, f s = some e → p e) → (∀ e ∈ l, p e) → ∀ s e, (l.foldl apPut f) s = some e → p e := by
  induction l with
  | nil => intro f h _; exact h
  | cons x l ih =>
    intro f h hl
    refine ih _ (fun s e he => ?_) (fun e he => hl e (List.mem_cons_of_mem _ he))
    unfold apPut at he
    split at he
    · cases he; exact hl _ List.mem_cons_self
    · exact h s e he
theorem apRs_all {p : EI → Prop} {l : List EI} {rs : List (List Int)} (hl : ∀ e ∈ l, p e) (hr : ∀ r ∈ rs, p (recE r)) : ∀ s e, apRs (apM l) rs s = some e → p e := by
  have : ∀ (rs : List (List Int)) f, (∀ s e, f s = some e → p e) → (∀ r ∈ rs, p (recE r)) → ∀ s e, apRs f rs s = some e → p e := by
    intro rs
    induction rs with
    | nil => intro f h _; exact h
    | cons r rs ih =>
      intro f h hr
      refine ih _ (fun s e he => ?_) (fun r hr' => hr r (List.mem_cons_of_mem _ hr'))
      unfold apR at he
      split at he
      · split at he
        · cases he; exact hr _ List.mem_cons_self
        · cases he
      · exact h s e he
  exact this rs _ (apM_all l _ (fun s e h => by cases h) hl) hr
def Lists (f : Int → Option EI) (L : List EI) : Prop := (L.map EI.b).Nodup ∧ ∀ e, e ∈ L ↔ f e.b = some e
theorem flat_row {α : Type} {enc : α → List Value} {m : Nat} (hl : ∀ x, (enc x).length = m) {w : World} {g o : Nat} {L : List α} (h : ∀ j u, (L.flatMap enc)[j]? = some u → w.cell? ⟨g, o + j, none⟩ = some u) {k : Nat} (hk : k < L.length) : w.rangeAt g (o + k * m) (enc L[k]) := by
  intro j v hj
  have hj' : j < m := by rw [← hl L[k]]; exact (List.getElem?_eq_some_iff.1 hj).1
  rw [Nat.add_assoc]
  refine h _ v ?_
  have : ∀ (L : List α) (k : Nat) (hk : k < L.length), (L.flatMap enc)[k * m + j]? = (enc L[k])[j]? := by
    intro L
    induction L with
    | nil => intro k hk; simp at hk
    | cons x L ih =>
      intro k hk
      rw [List.flatMap_cons]
      cases k with
      | zero => rw [Nat.zero_mul, Nat.zero_add, List.getElem?_append_left (by rw [hl]; exact hj')]; rfl
      | succ k =>
        have e : (k + 1) * m + j = m + (k * m + j) := by rw [Nat.succ_mul]; omega
        rw [e, List.getElem?_append_right (by rw [hl]; omega), hl, Nat.add_sub_cancel_left]
        exact ih k (by simpa using hk)
  rw [this L k hk]; exact hj
def cntS (L : List EI) (s : Int) : Nat := L.countP (fun e => e.s == s)
def takenF (L : List EI) : Int → Option Int := fun s => if cntS L s = 0 then none else some (cntS L s : Int)
theorem takenF_snoc (L : List EI) (e : EI) : takenF (L ++ [e]) = fun s => if s = e.s then some ((cntS L e.s : Int) + 1) else takenF L s := by
  funext s
  unfold takenF cntS
  rw [List.countP_append]
  by_cases h : s = e.s
  · subst h
    simp
  · have h' : (e.s == s) = false := by simp; exact fun e => h e.symm
    simp [h, h']
theorem cntS_pos (L : List EI) (s : Int) : cntS L s = 0 ↔ s ∉ L.map EI.s := by
  unfold cntS
  rw [List.countP_eq_zero]
  simp only [List.mem_map, not_exists, not_and, beq_iff_eq]
theorem cntS_le (L : List EI) (s : Int) : cntS L s ≤ L.length := List.countP_le_length
theorem takenF_getD (L : List EI) (s : Int) : (takenF L s).getD 0 = (cntS L s : Int) := by
  unfold takenF
  split
  · rename_i h; rw [h]; rfl
  · rfl
theorem takenF_some (L : List EI) (s : Int) : (takenF L s).isSome = true ↔ s ∈ L.map EI.s := by
  unfold takenF
  by_cases h : cntS L s = 0
  · rw [if_pos h]
    exact ⟨fun h' => (by cases h'), fun h' => absurd h' ((cntS_pos L s).1 h)⟩
  · rw [if_neg h]
    exact ⟨fun _ => Classical.byContradiction fun h' => h ((cntS_pos L s).2 h'), fun _ => rfl⟩
theorem lists_step {F : Int → Option EI} {L : List EI} {left : Int → Bool} {x : Int} {en : EI} (hF : F x = some en) (heb : en.b = x) (hlx : left x = true) (hN : (L.map EI.b).Nodup) (hM : ∀ e, e ∈ L ↔ F e.b = some e ∧ left e.b = false) :
    ((L ++ [en]).map EI.b).Nodup ∧ ∀ e, e ∈ L ++ [en] ↔ F e.b = some e ∧ (left e.b && !decide (e.b = x)) = false := by
  refine ⟨?_, fun e => ?_⟩
  · rw [List.map_append, List.nodup_append]
    refine ⟨hN, by simp, fun a ha b hb hab => ?_⟩
    simp only [List.map_cons, List.map_nil, List.mem_singleton] at hb
    obtain ⟨e, he, rfl⟩ := List.mem_map.1 ha
    have := ((hM e).1 he).2
    rw [hab, hb, heb, hlx] at this
    cases this
  · rw [List.mem_append, List.mem_singleton, hM e]
    by_cases h : e.b = x
    · rw [decide_eq_true h, h]
      constructor
      · rintro (⟨-, h2⟩ | rfl)
        · rw [hlx] at h2; cases h2
        · exact ⟨hF, by simp⟩
      · rintro ⟨h1, -⟩
        rw [hF] at h1
        exact .inr (Option.some.inj h1).symm
    · rw [decide_eq_false h]
      constructor
      · rintro (h2 | rfl)
        · simpa using h2
        · exact absurd heb h
      · intro h2
        exact .inl (by simpa using h2)
theorem cnt_step {L : List EI} (en : EI) {c : Nat} (h1 : c ≤ L.length) (h2 : c = L.length ↔ (L.map EI.s).Nodup) :
    (if (takenF L en.s).isSome = true then c else c + 1) ≤ (L ++ [en]).length ∧ ((if (takenF L en.s).isSome = true then c else c + 1) = (L ++ [en]).length ↔ ((L ++ [en]).map EI.s).Nodup) := by
  rw [List.length_append, List.map_append, List.nodup_append]
  simp only [List.length_cons, List.length_nil]
  by_cases h : (takenF L en.s).isSome = true
  · rw [if_pos h]
    refine ⟨by omega, fun e => by omega, fun e => ?_⟩
    exact absurd rfl (e.2.2 _ ((takenF_some L en.s).1 h) en.s (by simp))
  · rw [if_neg h]
    refine ⟨by omega, fun e => ⟨h2.1 (by omega), by simp, fun a ha b hb hab => ?_⟩, fun e => by have := h2.2 e.1; omega⟩
    simp only [List.map_cons, List.map_nil, List.mem_singleton] at hb
    rw [hab, hb] at ha
    exact h ((takenF_some L en.s).2 ha)
theorem strict_of {L L' : List EI} (hp : L'.Perm L) (hn : (L.map EI.b).Nodup) (hs : L'.Pairwise (fun x y => x.b ≤ y.b)) : L'.Pairwise (fun x y => x.b < y.b) := by
  have h1 : (L'.map EI.b).Nodup := (hp.map EI.b).nodup_iff.2 hn
  have h2 : L'.Pairwise (fun x y => x.b ≠ y.b) := List.pairwise_map.1 h1
  exact (hs.and h2).imp (fun h => by have := h.1; have := h.2; omega)
theorem lists_perm {F : Int → Option EI} {L L' : List EI} (h : Lists F L) (hp : L'.Perm L) : Lists F L' := ⟨(hp.map EI.b).nodup_iff.2 h.1, fun e => (hp.mem_iff).trans (h.2 e)⟩
end Go.Proofs.YtfhfbpmlnjdfoaaGreatDoor
namespace Go.Proofs.YtfhfbpmlnjdfoaaGreatDoor
def Stop (G : Prop) : Prop := G
theorem Stop.i {G : Prop} (h : Stop G) : G := h
open Go Go.RowKit
structure LogI (w : World) (l b base n fi : Nat) : Prop where
  str : w.heap[l]? = some (.cells #[.pointer (some ⟨b, 0, none⟩), .int .i64 (base : Int), .int .i64 (n : Int), .func (.func 138) #[] #[], .func (.func 139) #[] #[], .func (.func fi) #[] #[]] 254 (0, 0))
theorem LogI.lt {w : World} {l b base n fi : Nat} (h : LogI w l b base n fi) : l < w.heap.size := lt_of_block h.str
theorem LogI.keep {w w' : World} {l b base n fi : Nat} (h : LogI w l b base n fi) {S : Nat → Prop} (hu : Upd S w w') (hs : ¬ S l) : LogI w' l b base n fi := ⟨(hu.block l h.lt hs).trans h.str⟩
theorem LogI.c {w : World} {l b base n fi : Nat} (h : LogI w l b base n fi) : w.cell? ⟨l, 0, none⟩ = some (.pointer (some ⟨b, 0, none⟩)) ∧ w.cell? ⟨l, 1, none⟩ = some (.int .i64 (base : Int)) ∧ w.cell? ⟨l, 2, none⟩ = some (.int .i64 (n : Int)) ∧
    w.cell? ⟨l, 3, none⟩ = some (.func (.func 138) #[] #[]) ∧ w.cell? ⟨l, 4, none⟩ = some (.func (.func 139) #[] #[]) ∧ w.cell? ⟨l, 5, none⟩ = some (.func (.func fi) #[] #[]) :=
  ⟨cell_of_block h.str 0, cell_of_block h.str 1, cell_of_block h.str 2, cell_of_block h.str 3, cell_of_block h.str 4, cell_of_block h.str 5⟩
theorem eql_fn (T : TypeId) (a b c) (h : Tryz.prog.underlying T = some (.func a b c)) (w : World) (fn : Fn) (xs ys : Array Value) : (binOp .eql T (.func fn xs ys) .nilFunc).run Tryz.prog w = .ok (.bool false) w := by
  have : ∀ d, (Op.equalIn (d + 1) T (.func fn xs ys) .nilFunc).run Tryz.prog w = .ok false w := fun d => by simp [Op.equalIn, run_underlying h]
  simp only [binOp]
  simp [Op.equal, Op.maxDepth, this 9999]
theorem newI_ok {S : Nat → Prop} {w : World} {b : Nat} {F : List Bk} {O : List (Nat × Bk)} {P : List Int} (h : Dv S w b F O P) (base n : Nat) (hn : 1 ≤ n) (hbn : base + n ≤ F.length) (fi : Nat) :
    Calls Tryz.prog 137 #[.pointer (some ⟨b, 0, none⟩), .int .i64 (base : Int), .int .i64 (n : Int), .func (.func 138) #[] #[], .func (.func 139) #[] #[], .func (.func fi) #[] #[]] w
      fun e w' => e = .returned (.tuple #[.pointer (some ⟨w.heap.size, 0, none⟩), .int .i64 0]) ∧ LogI w' w.heap.size b base n fi ∧ Below w.heap.size w w' := by
  have hfl := h.good.fl
  have e1 := eql_fn 235 _ _ _ Tryz.underlying235
  have e2 := eql_fn 236 _ _ _ Tryz.underlying236
  have e3 := eql_fn 237 _ _ _ Tryz.underlying237
  have q1 : decide ((base : Int) < 0) = false := by simp
  have q2 : decide ((n : Int) < 1) = false := by simp; omega
  have q3 : decide ((F.length : Int) < (base : Int)) = false := by simp; omega
  have q4 : decide ((F.length : Int) - (base : Int) < (n : Int)) = false := by simp; omega
  have H := Lib.hid h
  clear h
  go_enter Tryz.func137, Tryz.ntmps137
  go_wp2_with (first | (go_at_call 47; refine (dsize H.out).mono ?_; rintro e w' ⟨rfl, rfl⟩))
  go_ret2
  exact ⟨rfl, ⟨heap_alloc_last _ _ rfl⟩, (Below.refl _ _).alloc (Nat.le_refl _) _⟩
end Go.Proofs.YtfhfbpmlnjdfoaaGreatDoor
