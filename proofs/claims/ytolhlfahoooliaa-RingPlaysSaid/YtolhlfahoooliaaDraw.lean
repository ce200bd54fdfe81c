/- A region that draws its order, walked by hand: the condition on the world may be sharpened on the way. -/
import Derived.Test.YtolhlfahoooliaaBase
namespace Go.Proofs.Ytolhlfahoooliaa
open Go Go.RowKit

section
variable {P : Program} {ops : Array Oper} {Q : Exit → Act → World → Prop} {md : Region.Mode} {S S' : World → Prop}

/-- What holds under the sharper condition holds under the looser one. -/
theorem wpAnyH_mono (hs : ∀ w, S' w → S w) : ∀ (fuel : Nat) (listed : Array Bool) (a : Act) (w : World), wpAnyH P md ops Q S' fuel listed a w → wpAnyH P md ops Q S fuel listed a w := by
  intro fuel
  induction fuel with
  | zero => intro listed a w h; exact h
  | succ n ih => intro listed a w h; exact ⟨h.1, fun i hi => wpOp_mono (fun a w h => ⟨hs w h.1, ih _ _ _ h.2⟩) (h.2 i hi)⟩

/-- Sharpen the condition, which holds now. -/
theorem wpAnyH_sharpen (S' : World → Prop) (hs : ∀ w, S' w → S w) {fuel : Nat} {listed : Array Bool} {a : Act} {w : World} (h0 : S' w) (h : S' w → wpAnyH P md ops Q S' fuel listed a w) : wpAnyH P md ops Q S fuel listed a w :=
  wpAnyH_mono hs _ _ _ _ (h h0)
end
end Go.Proofs.Ytolhlfahoooliaa
