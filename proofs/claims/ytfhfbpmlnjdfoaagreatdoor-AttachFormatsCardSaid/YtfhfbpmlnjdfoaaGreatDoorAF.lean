/- A block of one number; small superblocks. -/
import Derived.Test.YtfhfbpmlnjdfoaaGreatDoorA18
import Derived.Test.YtfhfbpmlnjdfoaaGreatDoorA09
namespace Go.Proofs.YtfhfbpmlnjdfoaaGreatDoor
open Go Go.RowKit
theorem superC_one' (id bl sl jo pa lo ba : Int) : ∀ v ∈ superC id bl sl jo pa lo ba, v.oneCell' = true := by
  intro v hv
  simp only [superC, List.mem_cons, List.not_mem_nil, or_false] at hv
  rcases hv with rfl | rfl | rfl | rfl | rfl | rfl | rfl <;> rfl
def smN (bl sl jo : Nat) : CaN := ⟨7, bl, sl, jo, (sl - 1) / 4 + 1, 2, 3⟩
set_option maxRecDepth 100000 in
set_option maxHeartbeats 2000000 in
theorem small_any (bl sl jo : Nat) (hs1 : 1 ≤ sl) (hs2 : sl ≤ 100) (w : World) : Calls Tryz.prog 29 #[.int .i64 (bl : Int), .int .i64 (sl : Int), .int .i64 (jo : Int)] w fun e w' => e = .returned (.agg (smN bl sl jo).C.toArray) ∧ Below w.heap.size w w' := by
  obtain ⟨pa, hpa⟩ : ∃ pa, pa = (sl - 1) / 4 + 1 := ⟨_, rfl⟩
  have HN : Hid (∀ w, Calls Tryz.prog 54 #[.int .i64 (sl : Int)] w fun e w' => e = .returned (.int .i64 (pa : Int)) ∧ w = w') := by
    intro w; rw [hpa]; exact need_any sl hs1 (by omega) w
  have HC : Hid ((smN bl sl jo).C = superC 7 (bl : Int) (sl : Int) (jo : Int) (pa : Int) 2 3) := by
    show _ = _
    unfold smN CaN.C
    rw [← hpa]
    rfl
  rw [HC.out]
  clear hpa
  obtain ⟨L, hL⟩ : ∃ L, L = superC 7 (bl : Int) (sl : Int) (jo : Int) (pa : Int) 2 3 := ⟨_, rfl⟩
  have h1 : ∀ v ∈ L, v.oneCell' = true := by rw [hL]; exact superC_one' _ _ _ _ _ _ _
  have h7 : L.length = 7 := by rw [hL]; rfl
  have hi : (Tryz.prog.info? 40).map (·.size) = some L.length := by rw [h7]; exact infoSup
  have HI := Lib.hid (And.intro h7 (And.intro hi h1))
  clear h7 hi h1
  replace hL := Lib.hid hL
  rcases (show sl = 1 ∨ 2 ≤ sl by omega) with rfl | h2
  all_goals
    (try simp only [Int.natCast_one] at *)
    go_enter Tryz.func29, Tryz.ntmps29
    go_wp2_with (first
      | (go_at_call 54; refine (HN.out _).mono ?_; rintro e w' ⟨rfl, rfl⟩)
      | (refine wpList_store_new rfl _ _ _ rfl _ _ L rfl (by rw [hL.out]; rfl) (by rw [HI.out.1]; rfl) HI.out.2.1 HI.out.2.2 ?_)
      | fail)
    exact bodyPost_ret (results_mid1 rfl _ _ w.heap.size 0 L _ rfl (range_of_block (heap_alloc_last w _ rfl)) Tryz.underlying40 rfl HI.out.2.1) rfl ⟨by rw [hL.out], (Below.refl _ w).alloc (Nat.le_refl _) _⟩
end Go.Proofs.YtfhfbpmlnjdfoaaGreatDoor
