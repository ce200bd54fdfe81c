/- What one select on a channel does in a function's own frame: a weakest precondition for ordinary frames ('WpN'), with a rule for a region that begins with a select. -/
import Derived.Conc.LoneSelect
import Derived.Conc.LoneSelectN
import Derived.WalkKit
namespace Go.Proofs.Ytolhlfahoooliaa
open Go Go.Conc Go.RowKit

/-- As 'Code.wp', of ordinary frames alone. -/
def WpN (P : Program) (c : Code) (Q : Exit → Act → World → Prop) (a : Act) (w : World) : Prop :=
  ∀ (b : Frame) (k : List Item) (cs : List Frame), b.kind = .normal →
    ∃ e a' w', Q e a' w' ∧ Arrives P (lone (b.at a (.code c :: k)) cs w) b k cs e a' w'

section
variable {P : Program} {Q : Exit → Act → World → Prop} {a : Act} {w : World}

theorem WpN.of {c : Code} (h : c.wp P Q a w) : WpN P c Q a w := fun b k cs _ => h b k cs

theorem WpN.mono {c : Code} {Q' : Exit → Act → World → Prop} (h : WpN P c Q a w) (hq : ∀ e a w, Q e a w → Q' e a w) : WpN P c Q' a w :=
  fun b k cs hb => let ⟨e, a', w', q, r⟩ := h b k cs hb; ⟨e, a', w', hq _ _ _ q, r⟩

theorem WpN.seq {x y : Code} (h : WpN P x (Exit.then (WpN P y Q) Q) a w) : WpN P (Code.seq x y) Q a w := by
  intro b k cs hb
  obtain ⟨e, a₁, w₁, hq, harr⟩ := h b (.code y :: k) cs hb
  cases e with
  | normal =>
    obtain ⟨e₂, a₂, w₂, hq₂, harr₂⟩ := hq b k cs hb
    exact ⟨e₂, a₂, w₂, hq₂, .of_steps (.head step_seq harr) harr₂⟩
  | exit id => exact ⟨_, a₁, w₁, hq, .of_steps (.one step_seq) (.pass (x := .code y) rfl (fun _ _ => .inl (by simp)) harr)⟩
  | goto l => exact ⟨_, a₁, w₁, hq, .of_steps (.one step_seq) (.pass (x := .code y) rfl (fun _ _ => .inl (by simp)) harr)⟩
  | ret => exact ⟨_, a₁, w₁, hq, .of_steps (.one step_seq) (.pass (x := .code y) rfl (fun _ _ => .inl (by simp)) harr)⟩
  | panic ch => exact ⟨_, a₁, w₁, hq, .of_steps (.one step_seq) (.pass (x := .code y) rfl (fun _ _ => .inl (by simp)) harr)⟩
  | outgrown => exact ⟨_, a₁, w₁, hq, .of_steps (.one step_seq) (.pass (x := .code y) rfl (fun _ _ => .inl (by simp)) harr)⟩

/-- 'x; y' where x is plain. -/
theorem WpN.seq_of {x y : Code} (h : x.wp P (Exit.then (WpN P y Q) Q) a w) : WpN P (Code.seq x y) Q a w := .seq (.of h)

/-- A region that begins with a communication that this goroutine can carry out alone. -/
theorem WpN.comm {o : Oper} {rest : List Oper} {id : Nat} {cases : Array CommCase} {blocking : Bool} {shape : CommShape} {w₁ w₂ : World} {v : Value}
    (hg : o.guard = none) (hr : (execOp a.eval o).run P w = .ok (.comm cases blocking shape) w₁)
    (hstep : ∀ fr cs es, stepG P true (G fr cs) w = .comm (G fr cs) cases blocking shape w₁ es → step P (solo (G fr cs) w) = .next (solo (G (fr.finish v) cs) w₂))
    (h : wpList P (o :: rest).toArray Q rest (a.put o.dst v) w₂) : WpN P (Code.region id (o :: rest).toArray false) Q a w := by
  intro b k cs hb
  have hl : wpOps P (o :: rest).toArray Q (List.range' 1 rest.length) (a.put o.dst v) w₂ := by
    rw [wpOps_eq_wpList rest 1 (fun j => by simp [Nat.add_comm 1 j])]; exact h
  obtain ⟨e, a', w', q, r⟩ := wp_ops _ _ _ hl b k cs
  refine ⟨e, a', w', q, .of_steps (.one step_region) (.of_steps (m₁ := lone (b.at (a.put o.dst v) (.inRegion (o :: rest).toArray (List.range' 1 rest.length) :: k)) cs w₂) (.one ?_) r)⟩
  have hs := stepG_comm (P := P) (main := true) (b := b) (a := a) (k := k) (cs := cs) (w := w) (ops := (o :: rest).toArray) (i := 0) (rest := List.range' 1 rest.length) (o := o) (cases := cases) (blocking := blocking) (shape := shape) (w' := w₁)
    (by simp) (by simp [Region.wanted, hg]) (by simp [hb]) hr
  have h2 := hstep _ _ _ hs
  rw [Frame.finish_at] at h2
  have e1 : List.range (o :: rest).toArray.size = 0 :: List.range' 1 rest.length := by
    simp [List.range_eq_range', List.range'_succ]
  rw [e1, lone_eq_solo, h2]
  simp [lone_eq_solo]

/-- The body of a function, walked by 'WpN'. -/
theorem calls_of_wpN {f : FuncId} {fn : Func} {c : Code} {args : Array Value} {R : Ending → World → Prop}
    (hf : P.funcs[f]? = some fn) (hb : fn.body = some c)
    (h : WpN P c (bodyPost P fn R) { tmps := args ++ Array.replicate (fn.ntmps - args.size) undef, defers := [] } w) : Calls P f args w R := by
  intro cs
  let b : Frame := { (default : Frame) with fn := f, kind := .normal }
  have henter : Frame.enter P f args .normal =
      b.at { tmps := args ++ Array.replicate (fn.ntmps - args.size) undef, defers := [] } [.code c] := by
    simp [Frame.enter, Frame.at, hf, hb, b]
  obtain ⟨e, a', w', hq, harr⟩ := h b [] cs rfl
  rw [← henter] at harr
  cases e with
  | normal =>
    obtain ⟨hd, v, hr, hR⟩ := hq
    exact ⟨.returned v, w', _, hR, Steps.trans harr (.one step_end), rfl, rfl, hd, rfl, fn, hf, hr⟩
  | ret =>
    obtain ⟨hd, v, hr, hR⟩ := hq
    obtain ⟨todo, hs⟩ := harr
    exact ⟨.returned v, w', _, hR, hs, rfl, rfl, hd, rfl, fn, hf, hr⟩
  | panic chain =>
    obtain ⟨hd, hR⟩ := hq
    obtain ⟨todo, hs⟩ := harr
    exact ⟨.panicked chain, w', _, hR, hs, rfl, rfl, hd, fn, hf⟩
  | outgrown =>
    rcases harr with harr | harr
    · cases harr
    · exact ⟨.outgrown, w', b.at a' [], hq, harr, rfl, trivial⟩
  | exit id => exact hq.elim
  | goto l => exact hq.elim
end
end Go.Proofs.Ytolhlfahoooliaa
