/- The chapter's example of rings. -/
import Derived.Test.YtolhlfahoooliaaRing2
namespace Go.Proofs.Ytolhlfahoooliaa
open Go Go.Conc Go.RowKit

set_option maxHeartbeats 1000000 in
theorem awake02 (w : World) : Calls Try.prog 9 #[] w fun e w' => e = .returned (.bool true) ∧ Below w.heap.size w w' := by
  go_enter Try.func9, Try.ntmps9
  go_wp2_with fail
  refine (new_ok 2 _ (by decide) (by decide)).mono ?_
  rintro e w1 ⟨rfl, hr1, hb1⟩
  go_wp2_with fail
  refine (put_ok hr1 1 (by decide)).mono ?_
  rintro e w2 ⟨rfl, hr2, hu2⟩
  go_wp2_with fail
  refine (put_ok hr2 2 (by decide)).mono ?_
  rintro e w3 ⟨rfl, hr3, hu3⟩
  go_wp2_with fail
  refine (put_full hr3 3 (by decide)).mono ?_
  rintro e w4 ⟨rfl, hr4, hu4⟩
  go_wp2_with fail
  refine (take_some hr4).mono ?_
  rintro e w5 ⟨rfl, hr5, hu5⟩
  go_wp2_with fail
  refine (put_ok hr5 3 (by decide)).mono ?_
  rintro e w6 ⟨rfl, hr6, hu6⟩
  go_wp2_with fail
  refine (drain_any (l := [2, 3]) hr6 (by decide)).mono ?_
  rintro e w7 ⟨v, rfl, hs7, ho7, hr7, hu7⟩
  go_wp2_with fail
  refine (ints_any (l := [2, 3]) (m := [2, 3]) (hs7.keep ((Upd.refl (fun _ => False) w7).alloc _) (fun _ _ h => h)).rd (Rd.fresh _ _ _ _ rfl (by decide))).mono ?_
  rintro e w8 ⟨rfl, k, rfl⟩
  go_wp2
  go_ret
  have h0 : Upd (fun _ => False) w w1 := Upd.of_below hb1
  have side : ∀ i, i < w.heap.size → bc (w.heap.size + 1) w.heap.size i → False := by rintro i hi (rfl | rfl) <;> omega
  exact ⟨rfl, (((((((((h0.new hu2 side).new hu3 side).new hu4 side).new hu5 side).new hu6 side).new hu7 side)).alloc _).drewN k).below⟩
end Go.Proofs.Ytolhlfahoooliaa
