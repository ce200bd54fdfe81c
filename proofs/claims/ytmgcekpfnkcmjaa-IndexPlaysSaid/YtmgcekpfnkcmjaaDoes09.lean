/- 'does': one call with both indexes. -/
import Derived.Test.YtmgcekpfnkcmjaaIndex5
import Derived.Test.YtmgcekpfnkcmjaaRef09c
namespace Go.Proofs.Ytmgcekpfnkcmjaa
open Go Go.RowKit

set_option maxRecDepth 100000 in
theorem place_any (a : Int) (d : Bool) (e0 s : Int) (d' : Bool) (f : Int) (w : World) :
    Calls Try.prog 50 #[placeV a d, .int .i64 e0, .int .i64 s, .bool d', .int .i64 f] w fun e w' => (∃ bb, e = .returned (.bool bb) ∧ (e0 = f → d = d' → a = s → bb = true)) ∧ Below w.heap.size w w' := by
  have hB := (Below.refl _ w).alloc (Nat.le_refl _) (.cells #[.int .i64 a, .bool d] 36)
  by_cases h1 : e0 = f
  · have e1 : (e0 == f) = true := by simpa using h1
    by_cases h2 : d = d'
    · have e2 : (d == d') = true := by simpa using h2
      by_cases h3 : a = s
      · subst h1 h2 h3
        go_enter Try.func50, Try.ntmps50
        go_wp2
        go_ret
        exact ⟨⟨_, rfl, fun _ _ _ => by simp⟩, hB⟩
      · have e3 : (a == s) = false := by simpa using h3
        subst h1 h2
        go_enter Try.func50, Try.ntmps50
        go_wp2
        go_ret
        exact ⟨⟨_, rfl, fun _ _ h => absurd h h3⟩, hB⟩
    · have e2 : (d == d') = false := by simpa using h2
      subst h1
      go_enter Try.func50, Try.ntmps50
      go_wp2
      go_ret
      exact ⟨⟨_, rfl, fun _ h _ => absurd h h2⟩, hB⟩
  · have e1 : (e0 == f) = false := by simpa using h1
    go_enter Try.func50, Try.ntmps50
    go_wp2
    go_ret
    exact ⟨⟨_, rfl, fun h _ _ => absurd h h1⟩, hB⟩

/-- A call. -/
structure Op9 where
  ask : Int
  blk : Int
  slot : Int
  dirty : Bool
instance : Inhabited Op9 := ⟨⟨0, 0, 0, false⟩⟩
abbrev op9V (o : Op9) : Value := .agg #[.int .i64 o.ask, .int .i64 o.blk, .int .i64 o.slot, .bool o.dirty]
def ops9 (l : List Op9) : List Value := l.flatMap fun o => [.int .i64 o.ask, .int .i64 o.blk, .int .i64 o.slot, .bool o.dirty]
theorem ops9_at {l : List Op9} {k : Nat} (h : k < l.length) : (ops9 l)[k * 4]? = some (.int .i64 l[k].ask) ∧ (ops9 l)[k * 4 + 1]? = some (.int .i64 l[k].blk) ∧ (ops9 l)[k * 4 + 2]? = some (.int .i64 l[k].slot) ∧ (ops9 l)[k * 4 + 3]? = some (.bool l[k].dirty) := by
  have F := fun (j : Nat) (hj : j < 4) => flat_at (f := fun o : Op9 => [Value.int .i64 o.ask, .int .i64 o.blk, .int .i64 o.slot, .bool o.dirty]) (k := 4) (fun _ => rfl) l k j hj l[k] (List.getElem?_eq_getElem h)
  exact ⟨F 0 (by decide), F 1 (by decide), F 2 (by decide), F 3 (by decide)⟩

/-- What a call leaves. -/
def doL (ps : List (Int × Bool)) (slots : Nat) (o : Op9) : List (Int × Bool) :=
  if o.ask = 0 then putL ps slots o.blk o.slot o.dirty else if o.ask = 1 then dropL ps o.blk else cleanL ps o.blk

theorem putL_len (ps : List (Int × Bool)) (slots : Nat) (k s : Int) (d : Bool) : (putL ps slots k s d).length = ps.length := by unfold putL; split <;> simp
theorem dropL_len (ps : List (Int × Bool)) (k : Int) : (dropL ps k).length = ps.length := by unfold dropL; split <;> simp
theorem cleanL_len (ps : List (Int × Bool)) (k : Int) : (cleanL ps k).length = ps.length := by unfold cleanL; split <;> simp
theorem doL_len (ps : List (Int × Bool)) (slots : Nat) (o : Op9) : (doL ps slots o).length = ps.length := by
  unfold doL
  split
  · exact putL_len _ _ _ _ _
  · split
    · exact dropL_len _ _
    · exact cleanL_len _ _

theorem cells4 (w : World) (o : Op9) : (w.alloc (.cells #[.int .i64 o.ask, .int .i64 o.blk, .int .i64 o.slot, .bool o.dirty] 32)).heap[w.heap.size]? = some (.cells #[.int .i64 o.ask, .int .i64 o.blk, .int .i64 o.slot, .bool o.dirty] 32) := heap_alloc_last w _ rfl

set_option maxRecDepth 100000 in
set_option maxHeartbeats 2000000 in
theorem does_any {w : World} {b mb N : Nat} {v : Value} {ps : List (Int × Bool)} {slots : Nat} {rb : Nat} {vs vd : Value} {qs : List (Int × Bool)} {sl2 : Nat}
    (h : IndexAt w b v mb N ps slots) (hr : RefAt w rb vs vd qs sl2) (hq : Good qs sl2) (hN : N < maxLen) (hdis : ∀ j, (j = b ∨ ixS v mb j) → ¬ rS vs vd j) (hdis2 : ¬ ixS v mb rb) (o : Op9) :
    Calls Try.prog 15 #[.pointer (some ⟨b, 0, none⟩), .pointer (some ⟨rb, 0, none⟩), op9V o] w fun e w' => (∃ bb, e = .returned (.bool bb) ∧ (ps = qs → slots = sl2 → bb = true)) ∧
      IndexAt w' b v mb (N + 1) (doL ps slots o) slots ∧ RefAt w' rb vs vd (doL qs sl2 o) sl2 ∧ Upd (fun j => ixS v mb j ∨ rS vs vd j) w w' := by
  obtain ⟨ask, blk, slot, dirty⟩ := o
  have hu : Upd (fun _ => False) w (w.alloc (.cells #[.int .i64 ask, .int .i64 blk, .int .i64 slot, .bool dirty] 32)) := (Upd.refl _ _).alloc _
  have hI := h.keep hu (fun h => h) (fun _ _ h => h)
  have hR := hr.keep hu (fun h => h) (fun _ _ h => h)
  have HBX := Lib.hid (cells4 w ⟨ask, blk, slot, dirty⟩)
  have HI := Lib.hid hI
  have HRf := Lib.hid hR
  have HIS : Hid (∀ j, ixS v mb j → j < w.heap.size) := h.slt
  have HRS : Hid (∀ j, rS vs vd j → j < w.heap.size) := hr.slt
  have HD : Hid (∀ j, rS vs vd j → j ≠ b ∧ ¬ ixS v mb j) := fun j hj => ⟨fun e => hdis j (.inl e) hj, fun e => hdis j (.inr e) hj⟩
  have HD2 := Lib.hid hdis2
  have hbl := h.blt
  have hrl := hr.blt
  clear hI hR h hr hdis hdis2
  by_cases ha : ask = 0
  · subst ha
    have hL1 : doL ps slots ⟨0, blk, slot, dirty⟩ = putL ps slots blk slot dirty := by simp [doL]
    have hL2 : doL qs sl2 ⟨0, blk, slot, dirty⟩ = putL qs sl2 blk slot dirty := by simp [doL]
    rw [hL1, hL2]
    clear hL1 hL2
    have HG := Lib.hid (put_any HI.out blk slot dirty hN)
    have HV : Hid (ps = qs → slots = sl2 → putV ps slots blk slot = putV qs sl2 blk slot ∧ putC ps slots blk slot = putC qs sl2 blk slot) := fun e1 e2 => by rw [e1, e2]; exact ⟨rfl, rfl⟩
    generalize putV ps slots blk slot = z1 at HG HV
    generalize putC ps slots blk slot = z2 at HG HV
    go_enter Try.func15, Try.ntmps15
    go_wp2_with fail
    refine HG.out.mono ?_
    rintro e w1 ⟨rfl, hI1, hu1⟩
    have hz1 := hu1.size
    simp at hz1
    have hua : Upd (fun _ => False) w1 (w1.alloc (.cells #[.int .i64 z1.1, .bool z1.2] 36)) := (Upd.refl _ _).alloc _
    have hu2 := hu1.trans (hua.mono (S' := ixS v mb) (fun _ _ h => h.elim))
    have hI2 := hI1.keep hua (fun h => h) (fun _ _ h => h)
    have hR2 := HRf.out.keep hu2 HD2.out (fun j hj => (HD.out j hj).2)
    have hbx2 := (hu2.block _ (by simp) (fun e => by have := HIS.out _ e; omega)).trans HBX.out
    have hpl2 := heap_alloc_last w1 (.cells #[.int .i64 z1.1, .bool z1.2] 36) rfl
    have c1 := cell_of_block hbx2 1
    have c2 := cell_of_block hbx2 2
    have c3 := cell_of_block hbx2 3
    simp at c1 c2 c3
    have HI2 := Lib.hid hI2
    have HU2 := Lib.hid hu2
    have HPL := Lib.hid hpl2
    have HR := Lib.hid (rput_any hR2 blk slot dirty)
    generalize putV qs sl2 blk slot = y1 at HR HV
    generalize putC qs sl2 blk slot = y2 at HR HV
    clear hI1 hu1 hua hu2 hI2 hbx2 hpl2 hR2 HG
    go_wp2_with fail
    refine HR.out.mono ?_
    rintro e w3 ⟨rfl, hR3, hu3⟩
    have hI3 := HI2.out.keep hu3 (fun e => (HD.out _ e).1 rfl) (fun j hj e => (HD.out _ e).2 hj)
    have hpl3 := (hu3.block _ (by simp) (fun e => by have := HRS.out _ e; omega)).trans HPL.out
    have p0 := cell_of_block hpl3 0
    have p1 := cell_of_block hpl3 1
    simp at p0 p1
    have HU3 : Hid (Upd (fun j => ixS v mb j ∨ rS vs vd j) w w3) := by
      refine Upd.new (S' := fun j => ixS v mb j ∨ rS vs vd j) ?_ (hu3.mono (S' := rS vs vd) (fun _ _ h => h)) (fun i _ h => .inr h)
      exact Upd.new (S' := fun j => ixS v mb j ∨ rS vs vd j) (hu.mono (fun _ _ h => h.elim)) HU2.out (fun i _ h => .inl h)
    have HE := Lib.hid (And.intro hI3 hR3)
    clear hI3 hR3 hpl3 hu3 HR HU2 HPL
    go_wp2_with fail
    refine (place_any z1.1 z1.2 z2 y1.1 y1.2 y2 _).mono ?_
    rintro e w4 ⟨⟨bb, rfl, hbb⟩, hb4⟩
    go_wp2
    go_ret
    refine ⟨⟨bb, rfl, fun e1 e2 => ?_⟩, HE.out.1.below hb4, HE.out.2.below hb4, HU3.out.trans (Upd.of_below hb4)⟩
    obtain ⟨q1, q2⟩ := HV.out e1 e2
    exact hbb q2 (by rw [q1]) (by rw [q1])
  · have hab : (ask == 0) = false := by simpa using ha
    by_cases ha1 : ask = 1
    · subst ha1
      have hL1 : doL ps slots ⟨1, blk, slot, dirty⟩ = dropL ps blk := by simp [doL]
      have hL2 : doL qs sl2 ⟨1, blk, slot, dirty⟩ = dropL qs blk := by simp [doL]
      rw [hL1, hL2]
      clear hL1 hL2 ha hab
      have HG := Lib.hid (drop_any HI.out blk)
      have HV : Hid (ps = qs → slots = sl2 → getV ps blk = getV qs blk ∧ getC ps blk = getC qs blk) := fun e1 e2 => by rw [e1]; exact ⟨rfl, rfl⟩
      generalize getV ps blk = z1 at HG HV
      generalize getC ps blk = z2 at HG HV
      go_enter Try.func15, Try.ntmps15
      go_wp2_with fail
      refine HG.out.mono ?_
      rintro e w1 ⟨rfl, hI1, hu1⟩
      have hz1 := hu1.size
      simp at hz1
      have hua : Upd (fun _ => False) w1 (w1.alloc (.cells #[.int .i64 z1.1, .bool z1.2] 36)) := (Upd.refl _ _).alloc _
      have hu2 := hu1.trans (hua.mono (S' := ixS v mb) (fun _ _ h => h.elim))
      have hI2 := hI1.keep hua (fun h => h) (fun _ _ h => h)
      have hR2 := HRf.out.keep hu2 HD2.out (fun j hj => (HD.out j hj).2)
      have hbx2 := (hu2.block _ (by simp) (fun e => by have := HIS.out _ e; omega)).trans HBX.out
      have hpl2 := heap_alloc_last w1 (.cells #[.int .i64 z1.1, .bool z1.2] 36) rfl
      have c1 := cell_of_block hbx2 1
      simp at c1
      have HI2 := Lib.hid hI2
      have HU2 := Lib.hid hu2
      have HPL := Lib.hid hpl2
      have HR := Lib.hid (rdrop_any hR2 hq blk)
      generalize getV qs blk = y1 at HR HV
      generalize getC qs blk = y2 at HR HV
      clear hI1 hu1 hua hu2 hI2 hbx2 hpl2 hR2 HG
      go_wp2_with fail
      refine HR.out.mono ?_
      rintro e w3 ⟨rfl, hR3, hu3⟩
      have hI3 := HI2.out.keep hu3 (fun e => (HD.out _ e).1 rfl) (fun j hj e => (HD.out _ e).2 hj)
      have hpl3 := (hu3.block _ (by simp) (fun e => by have := HRS.out _ e; omega)).trans HPL.out
      have p0 := cell_of_block hpl3 0
      have p1 := cell_of_block hpl3 1
      simp at p0 p1
      have HU3 : Hid (Upd (fun j => ixS v mb j ∨ rS vs vd j) w w3) := by
        refine Upd.new (S' := fun j => ixS v mb j ∨ rS vs vd j) ?_ (hu3.mono (S' := rS vs vd) (fun _ _ h => h)) (fun i _ h => .inr h)
        exact Upd.new (S' := fun j => ixS v mb j ∨ rS vs vd j) (hu.mono (fun _ _ h => h.elim)) HU2.out (fun i _ h => .inl h)
      have HE := Lib.hid (And.intro hI3 hR3)
      clear hI3 hR3 hpl3 hu3 HR HU2 HPL
      go_wp2_with fail
      refine (place_any z1.1 z1.2 z2 y1.1 y1.2 y2 _).mono ?_
      rintro e w4 ⟨⟨bb, rfl, hbb⟩, hb4⟩
      go_wp2
      go_ret
      refine ⟨⟨bb, rfl, fun e1 e2 => ?_⟩, (HE.out.1.below hb4).mono (Nat.le_succ _), HE.out.2.below hb4, HU3.out.trans (Upd.of_below hb4)⟩
      obtain ⟨q1, q2⟩ := HV.out e1 e2
      exact hbb q2 (by rw [q1]) (by rw [q1])
    · have hab1 : (ask == 1) = false := by simpa using ha1
      have hL1 : doL ps slots ⟨ask, blk, slot, dirty⟩ = cleanL ps blk := by simp [doL, ha, ha1]
      have hL2 : doL qs sl2 ⟨ask, blk, slot, dirty⟩ = cleanL qs blk := by simp [doL, ha, ha1]
      rw [hL1, hL2]
      clear hL1 hL2 ha ha1
      have hI0 : IndexAt (w.alloc (.cells #[.int .i64 ask, .int .i64 blk, .int .i64 slot, .bool dirty] 32)).drew b v mb N ps slots := HI.out.keep ((Upd.refl (fun _ => False) _).drew) (fun h => h) (fun _ _ h => h)
      have HG := Lib.hid (clean_any hI0 blk)
      have HV : Hid (ps = qs → slots = sl2 → getC ps blk = getC qs blk) := fun e1 e2 => by rw [e1]
      generalize getC ps blk = z2 at HG HV
      obtain ⟨y2, hy2⟩ : ∃ y2, y2 = getC qs blk := ⟨_, rfl⟩
      have HV' : Hid (ps = qs → slots = sl2 → z2 = y2) := fun e1 e2 => by rw [HV.out e1 e2, hy2]
      have HRC : Hid (∀ {w : World}, RefAt w rb vs vd qs sl2 → Calls Try.prog 52 #[.pointer (some ⟨rb, 0, none⟩), .int .i64 blk] w fun e w' => e = .returned (.int .i64 y2) ∧ RefAt w' rb vs vd (cleanL qs blk) sl2 ∧ Upd (rS vs vd) w w') := fun h => by rw [hy2]; exact rclean_any h hq blk
      have c0 := cell_of_block HBX.out 0
      have c1 := cell_of_block HBX.out 1
      simp at c0 c1
      have HK : Hid ((w.alloc (.cells #[.int .i64 ask, .int .i64 blk, .int .i64 slot, .bool dirty] 32)).drew.cell? ⟨w.heap.size, 1, none⟩ = some (.int .i64 blk)) := cell_of_block HBX.out 1
      have HRD : Hid (RefAt (w.alloc (.cells #[.int .i64 ask, .int .i64 blk, .int .i64 slot, .bool dirty] 32)).drew rb vs vd qs sl2) := HRf.out.keep ((Upd.refl (fun _ => False) _).drew) (fun h => h) (fun _ _ h => h)
      clear hI0 hy2 HV
      go_enter Try.func15, Try.ntmps15
      go_wp2
      go_region_held3 (fun W => W.cell? ⟨w.heap.size, 1, none⟩ = some (.int .i64 blk)) (go_keep)
        (first
        | ((go_at_call 18; refine HG.out.mono ?_; rintro e w2 ⟨rfl, hI2, hu2⟩; have k1 := (hu2.cellAt (b := w.heap.size) (o := 1) (by simp) (fun e => by have := HIS.out _ e; omega)).trans HK.out))
        | ((go_at_call 52; refine (HRC.out (HRD.out.keep hu2 HD2.out (fun j hj => (HD.out j hj).2))).mono ?_; rintro e w3 ⟨rfl, hR3, hu3⟩; have m1 := (hu3.cellAt (b := w.heap.size) (o := 1) (by have := hu2.size; simp at this; omega) (fun e => by have := HRS.out _ e; omega)).trans k1)))
      have hu2' : Upd (ixS v mb) (w.alloc (.cells #[.int .i64 ask, .int .i64 blk, .int .i64 slot, .bool dirty] 32)) w2 := hu2.undrew
      have hI3 := hI2.keep hu3 (fun e => (HD.out _ e).1 rfl) (fun j hj e => (HD.out _ e).2 hj)
      have HU3 : Hid (Upd (fun j => ixS v mb j ∨ rS vs vd j) w w3) := by
        refine Upd.new (S' := fun j => ixS v mb j ∨ rS vs vd j) ?_ (hu3.mono (S' := rS vs vd) (fun _ _ h => h)) (fun i _ h => .inr h)
        exact Upd.new (S' := fun j => ixS v mb j ∨ rS vs vd j) (hu.mono (fun _ _ h => h.elim)) hu2' (fun i _ h => .inl h)
      have HE := Lib.hid (And.intro hI3 hR3)
      clear hu2 hu2' hu3 hI2 hI3 hR3 m1 k1
      go_wp2
      go_ret
      exact ⟨⟨_, rfl, fun e1 e2 => by simpa using HV'.out e1 e2⟩, HE.out.1.mono (Nat.le_succ _), HE.out.2, HU3.out⟩
end Go.Proofs.Ytmgcekpfnkcmjaa
