/- A log: Get. -/
import Derived.Test.YtnadilfobmgebaaGreatDoorG27
namespace Go.Proofs.YtnadilfobmgebaaGreatDoor
open Go Go.RowKit
theorem block_set {w : World} {p : Nat} {cs : Array Value} {vs : List Value} {t : TypeId} (h : w.heap[p]? = some (.cells cs t (0, 0))) (hl : cs.size = vs.length) : (w.setCells p 0 vs).heap[p]? = some (.cells vs.toArray t (0, 0)) := by
  obtain ⟨cur', h2, h3, h4⟩ := heap_setCells_same vs 0 w p _ t (0, 0) h
  rw [h2]
  have : cur' = vs.toArray := by
    apply Array.ext_getElem?
    intro k
    have e : vs.toArray[k]? = vs[k]? := by simp
    rw [h4 k, e, hl]
    by_cases hk : k < vs.length
    · rw [if_pos ⟨by omega, by omega, by omega⟩]; rfl
    · rw [if_neg (by omega), Array.getElem?_eq_none (by omega), List.getElem?_eq_none (by omega)]
  rw [this]
structure Kind where
  ok : Bk → Bool
  ds : Bk → List Value
  cd : Bk → Int
  nm : Bk → Int
def logGetR (K : Kind) (zs : List Value) (base n : Nat) (i : Int) (F : List Bk) (O : List (Nat × Bk)) (P : List Int) : List Value × Int × List Int :=
  if i < 0 ∨ (n : Int) ≤ i then (zs, 10, P) else if fate P = 1 then (zs, 19, P.tail) else if curB F O (base + i.toNat) = zB then (zs, 14, P.tail) else
    if K.ok (curB F O (base + i.toNat)) = true ∧ K.nm (curB F O (base + i.toNat)) = i then (K.ds (curB F O (base + i.toNat)), 0, P.tail) else (zs, 12, P.tail)
def GetOut (S : Nat → Prop) (w : World) (b : Nat) (F : List Bk) (O : List (Nat × Bk)) (r : List Value × Int × List Int) (e : Ending) (w' : World) : Prop :=
  e = .returned (.tuple #[.agg r.1.toArray, .int .i64 r.2.1]) ∧ Dv S w' b F O r.2.2 ∧ Upd S w w'
def KindMeet (K : Kind) (t : TypeId) (v : Bk) (w2 : World) (s9 s8 : Value) (wx : World) : Prop :=
  ∃ q rs cd, s9 = .pointer (some ⟨q, 0, none⟩) ∧ s8 = .int .i64 cd ∧ wx.heap[q]? = some (.cells (rs : List Value).toArray t (0, 0)) ∧ w2.heap.size ≤ q ∧ Below w2.heap.size w2 wx ∧ (K.ok v = true → rs = K.ds v ∧ cd = 0) ∧ (K.ok v = false → cd ≠ 0)
theorem kindGuard {w w' : World} {ok : Bool} {ds zs : List Value} {cd : Int} {n : Nat} (h : (ok = true → cd = 0) ∧ (ok = false → cd ≠ 0) ∧ ds.length = n ∧ (∀ u ∈ ds, u.oneCell' = true) ∧ ∃ a, ds[0]? = some (.int .i64 a)) (hz : zs.length = n ∧ ∀ u ∈ zs, u.oneCell' = true) {e : Ending} (hg : GetPost w ok ds zs cd e w') :
    GuardPost w (fun rs c => (ok = true → rs = ds ∧ c = 0) ∧ (ok = false → c ≠ 0) ∧ rs.length = n ∧ ∀ u ∈ rs, u.oneCell' = true) e w' := by
  obtain ⟨⟨rs, h1, h2, rfl⟩, hb⟩ := hg
  refine ⟨rs, cd, ⟨fun ho => ⟨h1 ho, h.1 ho⟩, h.2.1, ?_⟩, rfl, hb⟩
  cases ok with
  | true => rw [h1 rfl]; exact ⟨h.2.2.1, h.2.2.2.1⟩
  | false => rw [h2 rfl]; exact hz
theorem zOneI : ([Value.int .i64 0, Value.int .i64 0, Value.int .i64 0, Value.int .i64 0].toArray).all (·.oneCell') = true := by simp [Value.oneCell']
set_option maxRecDepth 100000 in
set_option maxHeartbeats 4000000 in
theorem getI_log {S : Nat → Prop} {w : World} {l b base n fi : Nat} {F : List Bk} {O : List (Nat × Bk)} {P : List Int} (hl : LogI w l b base n fi) (hd : Dv S w b F O P) (hn : ∀ j, w.heap.size ≤ j → S j) (hSl : ¬ S l) (hN : Nib w)
    (hSN : ¬ S 0) (hfi : TellsI fi) (hbn : base + n ≤ F.length) (i : Int) (K : Kind)
    (hK : ∀ v : Bk, v.length = 64 → (K.ok v = true → K.cd v = 0) ∧ (K.ok v = false → K.cd v ≠ 0) ∧ (K.ds v).length = 4 ∧ (∀ u ∈ K.ds v, u.oneCell' = true) ∧ (K.ds v)[0]? = some (.int .i64 (K.nm v)))
    (hget : ∀ W v, v.length = 64 → Nib W → Calls Tryz.prog 16 #[.agg (bkC v).toArray] W (GetPost W (K.ok v) (K.ds v) [Value.int .i64 0, Value.int .i64 0, Value.int .i64 0, Value.int .i64 0] (K.cd v))) :
    Calls Tryz.prog 18 #[.pointer (some ⟨l, 0, none⟩), .int .i64 i] w (GetOut S w b F O (logGetR K [Value.int .i64 0, Value.int .i64 0, Value.int .i64 0, Value.int .i64 0] base n i F O P)) := by
  have hgA : ((w.alloc (.cells [Value.int .i64 0, Value.int .i64 0, Value.int .i64 0, Value.int .i64 0].toArray 39)).alloc (.cells [Value.int .i64 0, Value.int .i64 0, Value.int .i64 0, Value.int .i64 0].toArray 39)).heap[w.heap.size]? = some (.cells [Value.int .i64 0, Value.int .i64 0, Value.int .i64 0, Value.int .i64 0].toArray 39) := by rw [Below.heap_alloc _ _ _ (by simp)]; exact heap_alloc_last w _ rfl
  have hgB : ((w.alloc (.cells [Value.int .i64 0, Value.int .i64 0, Value.int .i64 0, Value.int .i64 0].toArray 39)).alloc (.cells [Value.int .i64 0, Value.int .i64 0, Value.int .i64 0, Value.int .i64 0].toArray 39)).heap[w.heap.size + 1]? = some (.cells [Value.int .i64 0, Value.int .i64 0, Value.int .i64 0, Value.int .i64 0].toArray 39) := heap_alloc_last _ _ (by simp)
  have hu1 : Upd (fun _ => False) w ((w.alloc (.cells [Value.int .i64 0, Value.int .i64 0, Value.int .i64 0, Value.int .i64 0].toArray 39)).alloc (.cells [Value.int .i64 0, Value.int .i64 0, Value.int .i64 0, Value.int .i64 0].toArray 39)) := ((Upd.refl _ w).alloc _).alloc _
  have hs1 : ((w.alloc (.cells [Value.int .i64 0, Value.int .i64 0, Value.int .i64 0, Value.int .i64 0].toArray 39)).alloc (.cells [Value.int .i64 0, Value.int .i64 0, Value.int .i64 0, Value.int .i64 0].toArray 39)).heap.size = w.heap.size + 2 := by simp
  have hl1 := hl.keep hu1 (fun h => h)
  have hN1 := hN.keep hu1 (fun h => h)
  have hfl := hd.good.fl
  obtain ⟨c0, c1, c2, -, c4, -⟩ := hl1.c
  have H := Lib.hid (And.intro hfi (And.intro hK hget))
  have hd1 : Dv (fun j => S j ∧ j ≠ w.heap.size ∧ j ≠ w.heap.size + 1) ((w.alloc (.cells [Value.int .i64 0, Value.int .i64 0, Value.int .i64 0, Value.int .i64 0].toArray 39)).alloc (.cells [Value.int .i64 0, Value.int .i64 0, Value.int .i64 0, Value.int .i64 0].toArray 39)) b F O P :=
    (((hd.but (Nat.le_refl _)).but (q := w.heap.size + 1) (by omega)).keep hu1 (fun _ _ h => h)).wide (fun j h => ⟨h.1.1, h.1.2, h.2⟩)
  have hn1 : ∀ j, w.heap.size + 2 ≤ j → S j ∧ j ≠ w.heap.size ∧ j ≠ w.heap.size + 1 := fun j hj => ⟨hn j (by omega), by omega, by omega⟩
  have HAS : Hid (S w.heap.size) := hn _ (Nat.le_refl _)
  have hllt := hl.lt
  have HL := Lib.hid (And.intro hl1 (And.intro hN1 (And.intro hu1 (And.intro hd1 (And.intro hn1 (And.intro hSl (And.intro hSN hs1)))))))
  clear hl hd hn hSl hN hSN hfi hK hget hl1 hN1 hu1 hd1 hn1
  go_enter Tryz.func18, Tryz.ntmps18
  by_cases hout : i < 0 ∨ (n : Int) ≤ i
  · have hres : Hid (logGetR K [Value.int .i64 0, Value.int .i64 0, Value.int .i64 0, Value.int .i64 0] base n i F O P = ([Value.int .i64 0, Value.int .i64 0, Value.int .i64 0, Value.int .i64 0], 10, P)) := if_pos hout
    have HD : Hid (Dv (fun j => S j ∧ j ≠ w.heap.size ∧ j ≠ w.heap.size + 1) ((w.alloc (.cells [Value.int .i64 0, Value.int .i64 0, Value.int .i64 0, Value.int .i64 0].toArray 39)).alloc (.cells [Value.int .i64 0, Value.int .i64 0, Value.int .i64 0, Value.int .i64 0].toArray 39)) b F O P ∧ Upd S w ((w.alloc (.cells [Value.int .i64 0, Value.int .i64 0, Value.int .i64 0, Value.int .i64 0].toArray 39)).alloc (.cells [Value.int .i64 0, Value.int .i64 0, Value.int .i64 0, Value.int .i64 0].toArray 39))) := ⟨HL.out.2.2.2.1, HL.out.2.2.1.mono (fun _ _ h => h.elim)⟩
    have rB := range_of_block hgB
    have tA := there_of_block (n := 4) hgA (by simp)
    clear hgA hgB
    by_cases h0 : i < 0
    · have z1 : decide (i < 0) = true := by simpa using h0
      clear h0 hout
      go_wp2_with (first
        | (refine wpList_load_mid rfl _ _ rfl _ _ rfl _ _ rB Tryz.underlying39 rfl infoIn ?_)
        | (refine wpList_store_mid rfl _ _ _ rfl _ _ [Value.int .i64 0, Value.int .i64 0, Value.int .i64 0, Value.int .i64 0].toArray rfl rfl tA infoIn zOneI ?_)
        | fail)
      refine bodyPost_ret (results_mid2 rfl _ _ w.heap.size 0 [Value.int .i64 0, Value.int .i64 0, Value.int .i64 0, Value.int .i64 0] _ rfl (World.rangeAt_setCells_same _ _ _ _ tA) Tryz.underlying39 rfl infoIn) rfl ?_
      rw [hres.out]
      exact ⟨rfl, HD.out.1.keep (upd_row _ w.heap.size 0 _) (fun j h e => h.2.1 e) |>.wide (fun j h => h.1), HD.out.2.trans ((upd_row _ w.heap.size 0 _).mono (fun j _ e => e ▸ HAS.out))⟩
    · have z1 : decide (i < 0) = false := by simpa using h0
      have z2 : decide ((n : Int) ≤ i) = true := by simp; omega
      clear h0 hout
      go_wp2_with (first
        | (refine wpList_load_mid rfl _ _ rfl _ _ rfl _ _ rB Tryz.underlying39 rfl infoIn ?_)
        | (refine wpList_store_mid rfl _ _ _ rfl _ _ [Value.int .i64 0, Value.int .i64 0, Value.int .i64 0, Value.int .i64 0].toArray rfl rfl tA infoIn zOneI ?_)
        | fail)
      refine bodyPost_ret (results_mid2 rfl _ _ w.heap.size 0 [Value.int .i64 0, Value.int .i64 0, Value.int .i64 0, Value.int .i64 0] _ rfl (World.rangeAt_setCells_same _ _ _ _ tA) Tryz.underlying39 rfl infoIn) rfl ?_
      rw [hres.out]
      exact ⟨rfl, HD.out.1.keep (upd_row _ w.heap.size 0 _) (fun j h e => h.2.1 e) |>.wide (fun j h => h.1), HD.out.2.trans ((upd_row _ w.heap.size 0 _).mono (fun j _ e => e ▸ HAS.out))⟩
  · obtain ⟨an, han⟩ : ∃ an : Nat, i = (an : Int) := ⟨i.toNat, by omega⟩
    have hann : an < n := by omega
    have z1 : decide ((an : Int) < 0) = false := by simp
    have z2 : decide ((n : Int) ≤ (an : Int)) = false := by simp; omega
    have hres0 : Hid (logGetR K [Value.int .i64 0, Value.int .i64 0, Value.int .i64 0, Value.int .i64 0] base n i F O P = if fate P = 1 then ([Value.int .i64 0, Value.int .i64 0, Value.int .i64 0, Value.int .i64 0], 19, P.tail) else if curB F O (base + an) = zB then ([Value.int .i64 0, Value.int .i64 0, Value.int .i64 0, Value.int .i64 0], 14, P.tail) else
      if K.ok (curB F O (base + an)) = true ∧ K.nm (curB F O (base + an)) = i then (K.ds (curB F O (base + an)), 0, P.tail) else ([Value.int .i64 0, Value.int .i64 0, Value.int .i64 0, Value.int .i64 0], 12, P.tail)) := by show _ = _; rw [logGetR, if_neg hout, han, Int.toNat_natCast]
    have HI := Lib.hid han
    rw [han]
    clear hout han
    go_wp2
    generalize (w.alloc (.cells [Value.int .i64 0, Value.int .i64 0, Value.int .i64 0, Value.int .i64 0].toArray 39)).alloc (.cells [Value.int .i64 0, Value.int .i64 0, Value.int .i64 0, Value.int .i64 0].toArray 39) = w1 at *
    obtain ⟨T, hT⟩ : ∃ T : Nat → Prop, T = fun j => S j ∧ j ≠ w.heap.size ∧ j ≠ w.heap.size + 1 := ⟨_, rfl⟩
    obtain ⟨hl1, hN1, hu1, hd1, hn1, hSl, hSN, -⟩ := HL.out
    have hTS : ∀ j, T j → S j := fun j h => by rw [hT] at h; exact h.1
    have hTA : ¬ T w.heap.size := fun h => by rw [hT] at h; exact h.2.1 rfl
    have hTA' : ∀ j, T j → j ≠ w.heap.size := fun j h e => hTA (e ▸ h)
    have hTB : ¬ T (w.heap.size + 1) := fun h => by rw [hT] at h; exact h.2.2 rfl
    have hTl : ¬ T l := fun h => hSl (hTS l h)
    have hTN : ¬ T 0 := fun h => hSN (hTS _ h)
    rw [← hT] at hd1
    replace hn1 : ∀ j, w1.heap.size ≤ j → T j := fun j hj => by rw [hT]; exact hn1 j (by omega)
    have HT := Lib.hid (And.intro hTS (And.intro hTA (And.intro hTB (And.intro hTl (And.intro hTN (And.intro hd1 (And.intro hn1 (And.intro hu1 (And.intro hl1 (And.intro hN1 (And.intro hgA (And.intro hgB hTA'))))))))))))
    have hl1lt := hl1.lt
    clear hT hTS hTA hTB hTl hTN hd1 hn1 hu1 hl1 hN1 hgA hgB hSl hSN hTA' hs1
    go_cut [7, 8] (fun s7 s8 wx => ReadMeet T b F O P (base + an) w1 s7 s8 wx)
    case first =>
      have e1 : IntKind.i64.wrap ((base : Int) + (an : Int)) = ((base + an : Nat) : Int) := IntWalk.i64_in _ (by omega)
      refine wp_region_held_drew (S := fun W => W.cell? ⟨l, 0, none⟩ = some (.pointer (some ⟨b, 0, none⟩)) ∧ W.cell? ⟨l, 1, none⟩ = some (.int .i64 (base : Int))) (by kernel_rfl) (⟨by rw [World.cell?_drew]; exact c0, by rw [World.cell?_drew]; exact c1⟩) (fun hHeld => ?_)
      refine wpAnyH_take (i := 0) (v := ?_) rfl (by kernel_rfl) (by kernel_rfl) (by kernel_rfl) (fun _ _ _ h => h) (Or.inl ⟨by rfl, ?_⟩) hHeld ?_
      rotate_left
      · intro W hSw; (try dsimp only at hSw); (try go_split_ands); go_simp; (try with_reducible rfl)
      simp only [List.getElem_toArray, List.getElem_cons_zero, Act.put, List.setIfInBounds_toArray, List.set_cons_zero, List.set_cons_succ]
      refine wpAnyH_take (i := 1) (v := ?_) rfl (by kernel_rfl) (by kernel_rfl) (by kernel_rfl) (fun _ _ _ h => h) (Or.inl ⟨by rfl, ?_⟩) hHeld ?_
      rotate_left
      · intro W hSw; (try dsimp only at hSw); (try go_split_ands); go_simp; (try with_reducible rfl)
      simp only [List.getElem_toArray, List.getElem_cons_succ, List.getElem_cons_zero, Act.put, List.setIfInBounds_toArray, List.set_cons_zero, List.set_cons_succ]
      refine wpAnyH_take (i := 2) (v := ?_) rfl (by kernel_rfl) (by kernel_rfl) (by kernel_rfl) (fun _ _ _ h => h) (Or.inl ⟨by rfl, ?_⟩) hHeld ?_
      rotate_left
      · intro W hSw; (try dsimp only at hSw); (try go_split_ands); go_simp; (try with_reducible rfl)
      simp only [List.getElem_toArray, List.getElem_cons_succ, List.getElem_cons_zero, Act.put, List.setIfInBounds_toArray, List.set_cons_zero, List.set_cons_succ]
      refine wpAnyH_take (i := 3) (v := ?_) rfl (by kernel_rfl) (by kernel_rfl) (by kernel_rfl) (fun _ _ _ h => h) (Or.inl ⟨by rfl, ?_⟩) hHeld ?_
      rotate_left
      · intro W hSw; (try dsimp only at hSw); (try go_split_ands); go_simp; (try with_reducible rfl)
      simp only [List.getElem_toArray, List.getElem_cons_succ, List.getElem_cons_zero, Act.put, List.setIfInBounds_toArray, List.set_cons_zero, List.set_cons_succ]
      refine wpAnyH_take (i := 4) (v := ?_) rfl (by kernel_rfl) (by kernel_rfl) (by kernel_rfl) (fun _ _ _ h => h) (Or.inl ⟨by rfl, ?_⟩) hHeld ?_
      rotate_left
      · intro W hSw; (try dsimp only at hSw); (try go_split_ands); go_simp; (try with_reducible rfl)
      simp only [List.getElem_toArray, List.getElem_cons_succ, List.getElem_cons_zero, Act.put, List.setIfInBounds_toArray, List.set_cons_zero, List.set_cons_succ]
      refine wpAnyH_take (i := 5) (v := ?_) rfl (by kernel_rfl) (by kernel_rfl) (by kernel_rfl) (fun _ _ _ h => h) (Or.inl ⟨by rfl, ?_⟩) hHeld ?_
      rotate_left
      · intro W hSw; (try dsimp only at hSw); (try go_split_ands); go_simp; (try with_reducible rfl)
      simp only [List.getElem_toArray, List.getElem_cons_succ, List.getElem_cons_zero, Act.put, List.setIfInBounds_toArray, List.set_cons_zero, List.set_cons_succ]
      refine wpAnyH_take (i := 6) (v := ?_) rfl (by kernel_rfl) (by kernel_rfl) (by kernel_rfl) (fun _ _ _ h => h) (Or.inl ⟨by rfl, ?_⟩) hHeld ?_
      rotate_left
      · intro W hSw; (try dsimp only at hSw); (try go_split_ands); go_simp; (try with_reducible rfl)
      simp only [List.getElem_toArray, List.getElem_cons_succ, List.getElem_cons_zero, Act.put, List.setIfInBounds_toArray, List.set_cons_zero, List.set_cons_succ]
      refine wpAnyH_take (i := 7) (v := ?_) rfl (by kernel_rfl) (by kernel_rfl) (by kernel_rfl) (fun _ _ _ h => h) (Or.inl ⟨by rfl, ?_⟩) hHeld ?_
      rotate_left
      · intro W hSw; (try dsimp only at hSw); (try go_split_ands); go_simp; (try with_reducible rfl)
      simp only [List.getElem_toArray, List.getElem_cons_succ, List.getElem_cons_zero, Act.put, List.setIfInBounds_toArray, List.set_cons_zero, List.set_cons_succ]
      refine wpAnyH_take (i := 8) (v := ?_) rfl (by kernel_rfl) (by kernel_rfl) (by kernel_rfl) (fun _ _ _ h => h) (Or.inl ⟨by rfl, ?_⟩) hHeld ?_
      rotate_left
      · intro W hSw; (try dsimp only at hSw); (try go_split_ands); go_simp; (try with_reducible rfl)
      simp only [List.getElem_toArray, List.getElem_cons_succ, List.getElem_cons_zero, Act.put, List.setIfInBounds_toArray, List.set_cons_zero, List.set_cons_succ]
      refine wpAnyH_take (i := 9) (v := ?_) rfl (by kernel_rfl) (by kernel_rfl) (by kernel_rfl) (fun _ _ _ h => h) (Or.inl ⟨by rfl, ?_⟩) hHeld ?_
      rotate_left
      · intro W hSw; (try dsimp only at hSw); (try go_split_ands); go_simp; (try with_reducible rfl)
      simp only [List.getElem_toArray, List.getElem_cons_succ, List.getElem_cons_zero, Act.put, List.setIfInBounds_toArray, List.set_cons_zero, List.set_cons_succ]
      refine wpAnyH_ready (rs := [10, 14]) (by kernel_rfl) (by simp) ?_
      refine AllReadyH.cons rfl (fun K hK => ?_) (AllReadyH.cons rfl (fun K hK => ?_) AllReadyH.nil)
      · go_simp
        refine (dreadR (HT.out.2.2.2.2.2.1.keep ((Upd.refl (fun _ => False) w1).drew) (fun _ _ h => h)) (HT.out.2.2.2.2.2.2.1) (base + an) (by omega)).mono ?_
        rintro e w7 ⟨z2, cd2, rfl, hz2, hcd2, hz2l, hd7, hu7⟩
        have HZ2 := Lib.hid (And.intro hz2 hcd2)
        clear hz2 hcd2
        refine hK.out _ _ (⟨hu7.cellv hHeld.1 HT.out.2.2.2.1, hu7.cellv hHeld.2 HT.out.2.2.2.1⟩) (fun hHeld2 => ?_)
        clear hK K
        refine wpAnyH_take (i := 11) (v := ?_) rfl (by kernel_rfl) (by kernel_rfl) (by kernel_rfl) (fun _ _ _ h => h) (Or.inl ⟨by rfl, ?_⟩) hHeld2 ?_
        rotate_left
        · intro W hSw; (try dsimp only at hSw); (try go_split_ands); go_simp; (try with_reducible rfl)
        simp only [List.getElem_toArray, List.getElem_cons_succ, List.getElem_cons_zero, Act.put, List.setIfInBounds_toArray, List.set_cons_zero, List.set_cons_succ]
        refine wpAnyH_take (i := 12) (v := ?_) rfl (by kernel_rfl) (by kernel_rfl) (by kernel_rfl) (fun _ _ _ h => h) (Or.inl ⟨by rfl, ?_⟩) hHeld2 ?_
        rotate_left
        · intro W hSw; (try dsimp only at hSw); (try go_split_ands); go_simp; (try with_reducible rfl)
        simp only [List.getElem_toArray, List.getElem_cons_succ, List.getElem_cons_zero, Act.put, List.setIfInBounds_toArray, List.set_cons_zero, List.set_cons_succ]
        refine wpAnyH_take (i := 13) (v := ?_) rfl (by kernel_rfl) (by kernel_rfl) (by kernel_rfl) (fun _ _ _ h => h) (Or.inl ⟨by rfl, ?_⟩) hHeld2 ?_
        rotate_left
        · intro W hSw; (try dsimp only at hSw); (try go_split_ands); go_simp; (try with_reducible rfl)
        simp only [List.getElem_toArray, List.getElem_cons_succ, List.getElem_cons_zero, Act.put, List.setIfInBounds_toArray, List.set_cons_zero, List.set_cons_succ]
        refine wpAnyH_ready (rs := [14]) (by kernel_rfl) (by simp) ?_
        refine AllReadyH.cons rfl (fun K hK => ?_) AllReadyH.nil
        go_simp
        show K _ (w7.alloc (.cells (bkC zB).toArray 23))
        have hg8 := heap_alloc_last w7 (.cells (bkC zB).toArray 23) rfl
        have hu8 : Upd (fun _ => False) w7 (w7.alloc (.cells (bkC zB).toArray 23)) := (Upd.refl _ _).alloc _
        have hw67 : w1.heap.size ≤ w7.heap.size := hu7.size
        have hd8 := (hd7.but (Nat.le_refl _)).keep hu8 (fun _ _ h => h)
        have hU8 : Upd T w1 (w7.alloc (.cells (bkC zB).toArray 23)) := ((Upd.refl _ w1).drew.trans hu7).trans (hu8.mono (fun _ _ h => h.elim))
        refine hK.out _ _ (⟨hu8.cellv hHeld2.1 (fun h => h), hu8.cellv hHeld2.2 (fun h => h)⟩) (fun hHeld3 => ?_)
        clear hK K
        generalize w7.heap.size = q at *
        generalize w7.alloc (.cells (bkC zB).toArray 23) = w8 at *
        refine wpAnyH_ready (rs := [15]) (by kernel_rfl) (by simp) ?_
        refine AllReadyH.cons rfl (fun K hK => ?_) AllReadyH.nil
        rw [if_pos (by rfl)]
        refine wp_store_mid _ _ _ rfl _ _ (List.toArray _) rfl rfl (by rw [bkC_size _ hz2l]; exact there_of_block hg8 (by rw [bkC_size _ zB_len]; exact Nat.le_refl _)) (by rw [bkC_size _ hz2l]; exact sizeBk') (all_oneCell_toArray (bkC_one _)) ?_
        simp only [Act.put, List.setIfInBounds_toArray]
        refine hK.out _ _ (⟨cell_keep_setCells hHeld3.1 (by omega), cell_keep_setCells hHeld3.2 (by omega)⟩) (fun hHeld4 => ?_)
        clear hK K
        refine wpAnyH_ready (rs := [16]) (by kernel_rfl) (by simp) ?_
        refine AllReadyH.cons rfl (fun K hK => ?_) AllReadyH.nil
        go_simp
        refine hK.out _ _ (hHeld4) (fun _ => ?_)
        clear hK K
        refine wpAnyH_done (by kernel_rfl) ?_ _
        clear hHeld4 e1
        go_wp2_with fail
        go_meet
        case rel => exact ⟨q, z2, cd2, rfl, rfl, block_setCells hg8 zB_len hz2l, hw67, HZ2.out.1, HZ2.out.2, hz2l, hd8.keep (upd_row w8 q 0 (bkC z2)) (fun j h e => h.2 e), hU8.trans ((upd_row w8 q 0 (bkC z2)).mono (fun j _ e => e ▸ HT.out.2.2.2.2.2.2.1 _ hw67))⟩
      · go_simp
        show K _ (w1.drew.alloc (.cells (bkC zB).toArray 23))
        have hg7 : (w1.drew.alloc (.cells (bkC zB).toArray 23)).heap[w1.heap.size]? = some (.cells (bkC zB).toArray 23) := heap_alloc_last w1.drew _ rfl
        have hu7a : Upd (fun _ => False) w1 (w1.drew.alloc (.cells (bkC zB).toArray 23)) := ((Upd.refl _ w1).drew).alloc _
        have hd7a : Dv (fun j => T j ∧ j ≠ w1.heap.size) (w1.drew.alloc (.cells (bkC zB).toArray 23)) b F O P := (HT.out.2.2.2.2.2.1.but (Nat.le_refl _)).keep hu7a (fun _ _ h => h)
        have hs7a : (w1.drew.alloc (.cells (bkC zB).toArray 23)).heap.size = w1.heap.size + 1 := by simp
        refine hK.out _ _ (⟨hu7a.cellv c0 (fun h => h), hu7a.cellv c1 (fun h => h)⟩) (fun hHeld2 => ?_)
        clear hK K
        generalize w1.drew.alloc (.cells (bkC zB).toArray 23) = w7a at *
        refine wpAnyH_ready (rs := [10]) (by kernel_rfl) (by simp) ?_
        refine AllReadyH.cons rfl (fun K hK => ?_) AllReadyH.nil
        go_simp
        refine (dreadR (hd7a) (fun j hj => ⟨HT.out.2.2.2.2.2.2.1 j (by omega), by omega⟩) (base + an) (by omega)).mono ?_
        rintro e w7 ⟨z2, cd2, rfl, hz2, hcd2, hz2l, hd7, hu7⟩
        have HZ2 := Lib.hid (And.intro hz2 hcd2)
        clear hz2 hcd2
        have hg8 := (hu7.block w1.heap.size (lt_of_block hg7) (fun h => h.2 rfl)).trans hg7
        refine hK.out _ _ (⟨hu7.cellv hHeld2.1 (fun h => HT.out.2.2.2.1 h.1), hu7.cellv hHeld2.2 (fun h => HT.out.2.2.2.1 h.1)⟩) (fun hHeld3 => ?_)
        clear hK K
        refine wpAnyH_take (i := 11) (v := ?_) rfl (by kernel_rfl) (by kernel_rfl) (by kernel_rfl) (fun _ _ _ h => h) (Or.inl ⟨by rfl, ?_⟩) hHeld3 ?_
        rotate_left
        · intro W hSw; (try dsimp only at hSw); (try go_split_ands); go_simp; (try with_reducible rfl)
        simp only [List.getElem_toArray, List.getElem_cons_succ, List.getElem_cons_zero, Act.put, List.setIfInBounds_toArray, List.set_cons_zero, List.set_cons_succ]
        refine wpAnyH_take (i := 12) (v := ?_) rfl (by kernel_rfl) (by kernel_rfl) (by kernel_rfl) (fun _ _ _ h => h) (Or.inl ⟨by rfl, ?_⟩) hHeld3 ?_
        rotate_left
        · intro W hSw; (try dsimp only at hSw); (try go_split_ands); go_simp; (try with_reducible rfl)
        simp only [List.getElem_toArray, List.getElem_cons_succ, List.getElem_cons_zero, Act.put, List.setIfInBounds_toArray, List.set_cons_zero, List.set_cons_succ]
        refine wpAnyH_take (i := 13) (v := ?_) rfl (by kernel_rfl) (by kernel_rfl) (by kernel_rfl) (fun _ _ _ h => h) (Or.inl ⟨by rfl, ?_⟩) hHeld3 ?_
        rotate_left
        · intro W hSw; (try dsimp only at hSw); (try go_split_ands); go_simp; (try with_reducible rfl)
        simp only [List.getElem_toArray, List.getElem_cons_succ, List.getElem_cons_zero, Act.put, List.setIfInBounds_toArray, List.set_cons_zero, List.set_cons_succ]
        refine wpAnyH_ready (rs := [15]) (by kernel_rfl) (by simp) ?_
        refine AllReadyH.cons rfl (fun K hK => ?_) AllReadyH.nil
        rw [if_pos (by rfl)]
        refine wp_store_mid _ _ _ rfl _ _ (List.toArray _) rfl rfl (by rw [bkC_size _ hz2l]; exact there_of_block hg8 (by rw [bkC_size _ zB_len]; exact Nat.le_refl _)) (by rw [bkC_size _ hz2l]; exact sizeBk') (all_oneCell_toArray (bkC_one _)) ?_
        simp only [Act.put, List.setIfInBounds_toArray]
        refine hK.out _ _ (⟨cell_keep_setCells hHeld3.1 (by omega), cell_keep_setCells hHeld3.2 (by omega)⟩) (fun hHeld4 => ?_)
        clear hK K
        refine wpAnyH_ready (rs := [16]) (by kernel_rfl) (by simp) ?_
        refine AllReadyH.cons rfl (fun K hK => ?_) AllReadyH.nil
        go_simp
        refine hK.out _ _ (hHeld4) (fun _ => ?_)
        clear hK K
        refine wpAnyH_done (by kernel_rfl) ?_ _
        clear hHeld4 e1
        go_wp2_with fail
        go_meet
        case rel => exact ⟨w1.heap.size, z2, cd2, rfl, rfl, block_setCells hg8 zB_len hz2l, Nat.le_refl _, HZ2.out.1, HZ2.out.2, hz2l, hd7.keep (upd_row w7 w1.heap.size 0 (bkC z2)) (fun j h e => h.2 e), ((hu7a.mono (fun _ _ h => h.elim)).trans (hu7.mono (fun j _ h => h.1))).trans ((upd_row w7 w1.heap.size 0 (bkC z2)).mono (fun j _ e => e ▸ HT.out.2.2.2.2.2.2.1 _ (Nat.le_refl _)))⟩
    case rest =>
      obtain ⟨q, v, cd2, rfl, rfl, hgq, hq, hv, hcd2, hvl, hdx, hux⟩ := hcut
      have hgA := (hux.block _ (lt_of_block HT.out.2.2.2.2.2.2.2.2.2.2.1) HT.out.2.1).trans HT.out.2.2.2.2.2.2.2.2.2.2.1
      have hgB := (hux.block _ (lt_of_block HT.out.2.2.2.2.2.2.2.2.2.2.2.1) HT.out.2.2.1).trans HT.out.2.2.2.2.2.2.2.2.2.2.2.1
      have hlx := HT.out.2.2.2.2.2.2.2.2.1.keep hux HT.out.2.2.2.1
      have hNx := HT.out.2.2.2.2.2.2.2.2.2.1.keep hux HT.out.2.2.2.2.1
      have hUx : Upd S w wc := (HT.out.2.2.2.2.2.2.2.1.mono (fun _ _ h => h.elim)).trans (hux.mono (fun j _ h => HT.out.1 j h))
      have hdT : Dv T wc b F O P.tail := hdx.wide (fun j h => h.1)
      have rq := range_of_block hgq
      have c4' := hlx.c.2.2.2.2.1
      have HQ := Lib.hid (And.intro hdT (And.intro hUx (And.intro hlx (And.intro hNx (And.intro hgA (And.intro hgB (And.intro hvl (And.intro hv hcd2))))))))
      have hqlt := lt_of_block hgq
      have hAlt := lt_of_block hgA
      have hBlt := lt_of_block hgB
      have hllx := hlx.lt
      have rB := range_of_block hgB
      have tA := there_of_block (n := 4) hgA (by simp)
      clear hgq hq hv hcd2 hvl hdx hux hlx hNx hUx hdT hgA hgB c0 c1 c2 c4
      by_cases hf : fate P = 1
      · have e19 : cd2 = 19 := by rw [HQ.out.2.2.2.2.2.2.2.2, if_pos hf]
        subst e19
        have hres : Hid (logGetR K [Value.int .i64 0, Value.int .i64 0, Value.int .i64 0, Value.int .i64 0] base n i F O P = ([Value.int .i64 0, Value.int .i64 0, Value.int .i64 0, Value.int .i64 0], 19, P.tail)) := by show _ = _; rw [hres0.out, if_pos hf]
        have HD : Hid (Dv (fun j => T j ∧ j ≠ w.heap.size) wc b F O P.tail ∧ Upd S w wc) := ⟨(HQ.out.1).wide (fun j h => ⟨h, HT.out.2.2.2.2.2.2.2.2.2.2.2.2 j h⟩), HQ.out.2.1⟩
        clear hf
        go_wp2_with (first
          | (refine wpList_load_mid rfl _ _ rfl _ _ rfl _ _ rB Tryz.underlying39 rfl infoIn ?_)
          | (refine wpList_store_mid rfl _ _ _ rfl _ _ [Value.int .i64 0, Value.int .i64 0, Value.int .i64 0, Value.int .i64 0].toArray rfl rfl tA infoIn zOneI ?_)
          | fail)
        refine bodyPost_ret (results_mid2 rfl _ _ w.heap.size 0 [Value.int .i64 0, Value.int .i64 0, Value.int .i64 0, Value.int .i64 0] _ rfl (World.rangeAt_setCells_same _ _ _ _ tA) Tryz.underlying39 rfl infoIn) rfl ?_
        rw [← HI.out, hres.out]
        exact ⟨rfl, HD.out.1.keep (upd_row _ w.heap.size 0 _) (fun j h e => h.2 e) |>.wide (fun j h => HT.out.1 j h.1), HD.out.2.trans ((upd_row _ w.heap.size 0 _).mono (fun j _ e => e ▸ HAS.out))⟩
      · have e0 : cd2 = 0 := by rw [HQ.out.2.2.2.2.2.2.2.2, if_neg hf]
        have ez : v = curB F O (base + an) := by rw [HQ.out.2.2.2.2.2.2.2.1, if_neg hf]
        subst e0
        have hr1 : Hid (logGetR K [Value.int .i64 0, Value.int .i64 0, Value.int .i64 0, Value.int .i64 0] base n i F O P = if v = zB then ([Value.int .i64 0, Value.int .i64 0, Value.int .i64 0, Value.int .i64 0], 14, P.tail) else if K.ok v = true ∧ K.nm v = i then (K.ds v, 0, P.tail) else ([Value.int .i64 0, Value.int .i64 0, Value.int .i64 0, Value.int .i64 0], 12, P.tail)) := by show _ = _; rw [hres0.out, if_neg hf, ez]
        clear hf ez
        have hq0 : ∀ W, (Op.equalIn 10000 23 (.agg (bkC v).toArray) (.agg #[.int .u8 0, .int .u8 0, .int .u8 0, .int .u8 0, .int .u8 0, .int .u8 0, .int .u8 0, .int .u8 0, .int .u8 0, .int .u8 0, .int .u8 0, .int .u8 0, .int .u8 0, .int .u8 0, .int .u8 0, .int .u8 0, .int .u8 0, .int .u8 0, .int .u8 0, .int .u8 0, .int .u8 0, .int .u8 0, .int .u8 0, .int .u8 0, .int .u8 0, .int .u8 0, .int .u8 0, .int .u8 0, .int .u8 0, .int .u8 0, .int .u8 0, .int .u8 0, .int .u8 0, .int .u8 0, .int .u8 0, .int .u8 0, .int .u8 0, .int .u8 0, .int .u8 0, .int .u8 0, .int .u8 0, .int .u8 0, .int .u8 0, .int .u8 0, .int .u8 0, .int .u8 0, .int .u8 0, .int .u8 0, .int .u8 0, .int .u8 0, .int .u8 0, .int .u8 0, .int .u8 0, .int .u8 0, .int .u8 0, .int .u8 0, .int .u8 0, .int .u8 0, .int .u8 0, .int .u8 0, .int .u8 0, .int .u8 0, .int .u8 0, .int .u8 0])).run Tryz.prog W = .ok (v == zB) W := eqIn_bk v zB HQ.out.2.2.2.2.2.2.1 zB_len
        by_cases h0 : v = zB
        · have hb0 : (v == zB) = true := by simpa using h0
          have hres : Hid (logGetR K [Value.int .i64 0, Value.int .i64 0, Value.int .i64 0, Value.int .i64 0] base n i F O P = ([Value.int .i64 0, Value.int .i64 0, Value.int .i64 0, Value.int .i64 0], 14, P.tail)) := by show _ = _; rw [hr1.out, if_pos h0]
          have HD : Hid (Dv (fun j => T j ∧ j ≠ w.heap.size) wc b F O P.tail ∧ Upd S w wc) := ⟨(HQ.out.1).wide (fun j h => ⟨h, HT.out.2.2.2.2.2.2.2.2.2.2.2.2 j h⟩), HQ.out.2.1⟩
          clear h0
          go_wp2_with (first
            | (refine wpList_load_mid rfl _ _ rfl _ _ rfl _ _ rq Tryz.underlying23 rfl (sizeBk _ HQ.out.2.2.2.2.2.2.1) ?_)
            | (refine wpList_load_mid rfl _ _ rfl _ _ rfl _ _ rB Tryz.underlying39 rfl infoIn ?_)
            | (refine wpList_store_mid rfl _ _ _ rfl _ _ [Value.int .i64 0, Value.int .i64 0, Value.int .i64 0, Value.int .i64 0].toArray rfl rfl tA infoIn zOneI ?_)
            | fail)
          refine bodyPost_ret (results_mid2 rfl _ _ w.heap.size 0 [Value.int .i64 0, Value.int .i64 0, Value.int .i64 0, Value.int .i64 0] _ rfl (World.rangeAt_setCells_same _ _ _ _ tA) Tryz.underlying39 rfl infoIn) rfl ?_
          rw [← HI.out, hres.out]
          exact ⟨rfl, HD.out.1.keep (upd_row _ w.heap.size 0 _) (fun j h e => h.2 e) |>.wide (fun j h => HT.out.1 j h.1), HD.out.2.trans ((upd_row _ w.heap.size 0 _).mono (fun j _ e => e ▸ HAS.out))⟩
        · have hb0 : (v == zB) = false := by simpa using h0
          have hr2 : Hid (logGetR K [Value.int .i64 0, Value.int .i64 0, Value.int .i64 0, Value.int .i64 0] base n i F O P = if K.ok v = true ∧ K.nm v = i then (K.ds v, 0, P.tail) else ([Value.int .i64 0, Value.int .i64 0, Value.int .i64 0, Value.int .i64 0], 12, P.tail)) := by show _ = _; rw [hr1.out, if_neg h0]
          clear h0
          go_wp2_with (first
            | (refine wpList_load_mid rfl _ _ rfl _ _ rfl _ _ rq Tryz.underlying23 rfl (sizeBk _ HQ.out.2.2.2.2.2.2.1) ?_)
            | fail)
          clear hq0 rB tA
          obtain ⟨wd, hwd⟩ : ∃ wd : World, wd = wc := ⟨_, rfl⟩
          go_cut [9, 8] (fun s9 s8 wx => KindMeet K 39 v wd s9 s8 wx)
          case first =>
            subst hwd
            refine wp_region_held_drew (S := fun W => W.cell? ⟨l, 4, none⟩ = some (.func (.func 16) #[] #[]) ∧ W.rangeAt q 0 (bkC v)) (by kernel_rfl) (⟨by rw [World.cell?_drew]; exact c4', by rw [World.rangeAt_drew]; exact rq⟩) (fun hHeld => ?_)
            refine wpAnyH_take (i := 0) (v := ?_) rfl (by kernel_rfl) (by kernel_rfl) (by kernel_rfl) (fun _ _ _ h => h) (Or.inl ⟨by rfl, ?_⟩) hHeld ?_
            rotate_left
            · intro W hSw; (try dsimp only at hSw); (try go_split_ands); go_simp; (try with_reducible rfl)
            simp only [List.getElem_toArray, List.getElem_cons_zero, Act.put, List.setIfInBounds_toArray, List.set_cons_zero, List.set_cons_succ]
            refine wpAnyH_take (i := 1) (v := ?_) rfl (by kernel_rfl) (by kernel_rfl) (by kernel_rfl) (fun _ _ _ h => h) (Or.inl ⟨by rfl, ?_⟩) hHeld ?_
            rotate_left
            · intro W hSw; (try dsimp only at hSw); (try go_split_ands); go_simp; (try with_reducible rfl)
            simp only [List.getElem_toArray, List.getElem_cons_succ, List.getElem_cons_zero, Act.put, List.setIfInBounds_toArray, List.set_cons_zero, List.set_cons_succ]
            refine wpAnyH_take (i := 2) (v := ?_) rfl (by kernel_rfl) (by kernel_rfl) (by kernel_rfl) (fun _ _ _ h => h) (Or.inl ⟨by rfl, ?_⟩) hHeld ?_
            rotate_left
            · intro W hSw; (try dsimp only at hSw); (try go_split_ands); go_simp; (try with_reducible rfl)
            simp only [List.getElem_toArray, List.getElem_cons_succ, List.getElem_cons_zero, Act.put, List.setIfInBounds_toArray, List.set_cons_zero, List.set_cons_succ]
            refine wpAnyH_take (i := 3) (v := ?_) rfl (by kernel_rfl) (by kernel_rfl) (by kernel_rfl) (fun _ _ _ h => h) (Or.inl ⟨by rfl, ?_⟩) hHeld ?_
            rotate_left
            · intro W hSw; (try dsimp only at hSw); (try go_split_ands); go_simp; (try with_reducible rfl)
            simp only [List.getElem_toArray, List.getElem_cons_succ, List.getElem_cons_zero, Act.put, List.setIfInBounds_toArray, List.set_cons_zero, List.set_cons_succ]
            refine' wpAnyH_take (i := 4) rfl (by kernel_rfl) (by kernel_rfl) (by kernel_rfl) (fun _ _ _ h => h) (yieldsIf_load_mid (by rfl) _ _ rfl _ _ rfl _ _ (fun w h => h.2) Tryz.underlying23 rfl (sizeBk _ HQ.out.2.2.2.2.2.2.1)) hHeld _
            simp only [List.getElem_toArray, List.getElem_cons_succ, List.getElem_cons_zero, Act.put, List.setIfInBounds_toArray, List.set_cons_zero, List.set_cons_succ]
            refine wpAnyH_ready (rs := [5, 9]) (by kernel_rfl) (by simp) ?_
            refine AllReadyH.cons rfl (fun K' hK => ?_) (AllReadyH.cons rfl (fun K' hK => ?_) AllReadyH.nil)
            · go_simp
              refine (guardBI (bkC v) (sizeBk _ HQ.out.2.2.2.2.2.2.1) 16 #[] (fun _ _ => rfl) (fun rs cd => (K.ok v = true → rs = K.ds v ∧ cd = 0) ∧ (K.ok v = false → cd ≠ 0) ∧ rs.length = 4 ∧ ∀ u ∈ rs, u.oneCell' = true) (fun ys cd h => h.2.2) (fun W hW => (H.out.2.2 W v HQ.out.2.2.2.2.2.2.1 ((HQ.out.2.2.2.1.keep ((Upd.refl (fun _ => False) _).drew) (fun h => h)).below hW)).mono (fun e w' h => kindGuard (let k := H.out.2.1 v HQ.out.2.2.2.2.2.2.1; ⟨k.1, k.2.1, k.2.2.1, k.2.2.2.1, _, k.2.2.2.2⟩) ⟨rfl, by intro u hu; simp at hu; subst hu; rfl⟩ h))).mono ?_
              rintro e w3 ⟨rs, cd, hR, rfl, hb3⟩
              have HR := Lib.hid hR
              clear hR
              refine hK.out _ _ (⟨(Upd.of_below (S := fun _ => False) hb3).cellv hHeld.1 (fun h => h), Below.range hb3 hHeld.2⟩) (fun hHeld2 => ?_)
              clear hK K'
              refine wpAnyH_take (i := 6) (v := ?_) rfl (by kernel_rfl) (by kernel_rfl) (by kernel_rfl) (fun _ _ _ h => h) (Or.inl ⟨by rfl, ?_⟩) hHeld2 ?_
              rotate_left
              · intro W hSw; (try dsimp only at hSw); (try go_split_ands); go_simp; (try with_reducible rfl)
              simp only [List.getElem_toArray, List.getElem_cons_succ, List.getElem_cons_zero, Act.put, List.setIfInBounds_toArray, List.set_cons_zero, List.set_cons_succ]
              refine wpAnyH_take (i := 7) (v := ?_) rfl (by kernel_rfl) (by kernel_rfl) (by kernel_rfl) (fun _ _ _ h => h) (Or.inl ⟨by rfl, ?_⟩) hHeld2 ?_
              rotate_left
              · intro W hSw; (try dsimp only at hSw); (try go_split_ands); go_simp; (try with_reducible rfl)
              simp only [List.getElem_toArray, List.getElem_cons_succ, List.getElem_cons_zero, Act.put, List.setIfInBounds_toArray, List.set_cons_zero, List.set_cons_succ]
              refine wpAnyH_take (i := 8) (v := ?_) rfl (by kernel_rfl) (by kernel_rfl) (by kernel_rfl) (fun _ _ _ h => h) (Or.inl ⟨by rfl, ?_⟩) hHeld2 ?_
              rotate_left
              · intro W hSw; (try dsimp only at hSw); (try go_split_ands); go_simp; (try with_reducible rfl)
              simp only [List.getElem_toArray, List.getElem_cons_succ, List.getElem_cons_zero, Act.put, List.setIfInBounds_toArray, List.set_cons_zero, List.set_cons_succ]
              refine wpAnyH_ready (rs := [9]) (by kernel_rfl) (by simp) ?_
              refine AllReadyH.cons rfl (fun K' hK => ?_) AllReadyH.nil
              go_simp
              show K' _ (w3.alloc (.cells [Value.int .i64 0, Value.int .i64 0, Value.int .i64 0, Value.int .i64 0].toArray 39))
              have hg4 := heap_alloc_last w3 (.cells [Value.int .i64 0, Value.int .i64 0, Value.int .i64 0, Value.int .i64 0].toArray 39) rfl
              have hu4 : Upd (fun _ => False) w3 (w3.alloc (.cells [Value.int .i64 0, Value.int .i64 0, Value.int .i64 0, Value.int .i64 0].toArray 39)) := (Upd.refl _ _).alloc _
              have hsz4 : wd.heap.size ≤ w3.heap.size := hb3.size
              have hB4 : Below wd.heap.size wd (w3.alloc (.cells [Value.int .i64 0, Value.int .i64 0, Value.int .i64 0, Value.int .i64 0].toArray 39)) := (bundrew' hb3).alloc hsz4 _
              refine hK.out _ _ (⟨hu4.cellv hHeld2.1 (fun h => h), hu4.range hHeld2.2 (fun h => h)⟩) (fun hHeld3 => ?_)
              clear hK K'
              generalize w3.heap.size = p at *
              generalize w3.alloc (.cells [Value.int .i64 0, Value.int .i64 0, Value.int .i64 0, Value.int .i64 0].toArray 39) = w4 at *
              refine wpAnyH_ready (rs := [10]) (by kernel_rfl) (by simp) ?_
              refine AllReadyH.cons rfl (fun K' hK => ?_) AllReadyH.nil
              rw [if_pos (by rfl)]
              refine wp_store_mid _ _ _ rfl _ _ (List.toArray _) rfl rfl (by rw [show rs.toArray.size = 4 by simpa using HR.out.2.2.1]; exact there_of_block hg4 (by simp)) (by rw [show rs.toArray.size = 4 by simpa using HR.out.2.2.1]; exact infoIn) (all_oneCell_toArray HR.out.2.2.2) ?_
              simp only [Act.put, List.setIfInBounds_toArray]
              refine hK.out _ _ (⟨cell_keep_setCells hHeld3.1 (by omega), (upd_row w4 p 0 rs).range hHeld3.2 (by omega)⟩) (fun hHeld4 => ?_)
              clear hK K'
              refine wpAnyH_ready (rs := [11]) (by kernel_rfl) (by simp) ?_
              refine AllReadyH.cons rfl (fun K' hK => ?_) AllReadyH.nil
              go_simp
              refine hK.out _ _ (hHeld4) (fun _ => ?_)
              clear hK K'
              refine wpAnyH_done (by kernel_rfl) ?_ _
              clear hHeld4
              go_wp2_with fail
              go_meet
              case rel => exact ⟨p, rs, cd, rfl, rfl, block_set hg4 (by rw [HR.out.2.2.1]; rfl), by omega, below_upd hB4 (upd_row w4 p 0 rs) (Nat.le_refl _) (fun k e => by omega), HR.out.1, HR.out.2.1⟩
            · go_simp
              show K' _ (wd.drew.alloc (.cells [Value.int .i64 0, Value.int .i64 0, Value.int .i64 0, Value.int .i64 0].toArray 39))
              have hg2 : (wd.drew.alloc (.cells [Value.int .i64 0, Value.int .i64 0, Value.int .i64 0, Value.int .i64 0].toArray 39)).heap[wd.heap.size]? = some (.cells [Value.int .i64 0, Value.int .i64 0, Value.int .i64 0, Value.int .i64 0].toArray 39) := heap_alloc_last wd.drew _ rfl
              have hu2 : Upd (fun _ => False) wd.drew (wd.drew.alloc (.cells [Value.int .i64 0, Value.int .i64 0, Value.int .i64 0, Value.int .i64 0].toArray 39)) := (Upd.refl _ _).alloc _
              have hB2 : Below wd.heap.size wd (wd.drew.alloc (.cells [Value.int .i64 0, Value.int .i64 0, Value.int .i64 0, Value.int .i64 0].toArray 39)) := (below_drewN (Below.refl _ wd) 1).alloc (Nat.le_refl _) _
              have hN2 := (HQ.out.2.2.2.1.keep ((Upd.refl (fun _ => False) _).drew) (fun h => h)).keep hu2 (fun h => h)
              refine hK.out _ _ (⟨hu2.cellv hHeld.1 (fun h => h), hu2.range hHeld.2 (fun h => h)⟩) (fun hHeld2 => ?_)
              clear hK K'
              generalize wd.drew.alloc (.cells [Value.int .i64 0, Value.int .i64 0, Value.int .i64 0, Value.int .i64 0].toArray 39) = w2 at *
              refine wpAnyH_ready (rs := [5]) (by kernel_rfl) (by simp) ?_
              refine AllReadyH.cons rfl (fun K' hK => ?_) AllReadyH.nil
              go_simp
              refine (guardBI (bkC v) (sizeBk _ HQ.out.2.2.2.2.2.2.1) 16 #[] (fun _ _ => rfl) (fun rs cd => (K.ok v = true → rs = K.ds v ∧ cd = 0) ∧ (K.ok v = false → cd ≠ 0) ∧ rs.length = 4 ∧ ∀ u ∈ rs, u.oneCell' = true) (fun ys cd h => h.2.2) (fun W hW => (H.out.2.2 W v HQ.out.2.2.2.2.2.2.1 (hN2.below hW)).mono (fun e w' h => kindGuard (let k := H.out.2.1 v HQ.out.2.2.2.2.2.2.1; ⟨k.1, k.2.1, k.2.2.1, k.2.2.2.1, _, k.2.2.2.2⟩) ⟨rfl, by intro u hu; simp at hu; subst hu; rfl⟩ h))).mono ?_
              rintro e w3 ⟨rs, cd, hR, rfl, hb3⟩
              have HR := Lib.hid hR
              clear hR
              have hg4 := (hb3.block wd.heap.size (lt_of_block hg2)).trans hg2
              have hB4 : Below wd.heap.size wd w3 := hB2.trans (hb3.mono hB2.size)
              refine hK.out _ _ (⟨(Upd.of_below (S := fun _ => False) hb3).cellv hHeld2.1 (fun h => h), Below.range hb3 hHeld2.2⟩) (fun hHeld3 => ?_)
              clear hK K'
              refine wpAnyH_take (i := 6) (v := ?_) rfl (by kernel_rfl) (by kernel_rfl) (by kernel_rfl) (fun _ _ _ h => h) (Or.inl ⟨by rfl, ?_⟩) hHeld3 ?_
              rotate_left
              · intro W hSw; (try dsimp only at hSw); (try go_split_ands); go_simp; (try with_reducible rfl)
              simp only [List.getElem_toArray, List.getElem_cons_succ, List.getElem_cons_zero, Act.put, List.setIfInBounds_toArray, List.set_cons_zero, List.set_cons_succ]
              refine wpAnyH_take (i := 7) (v := ?_) rfl (by kernel_rfl) (by kernel_rfl) (by kernel_rfl) (fun _ _ _ h => h) (Or.inl ⟨by rfl, ?_⟩) hHeld3 ?_
              rotate_left
              · intro W hSw; (try dsimp only at hSw); (try go_split_ands); go_simp; (try with_reducible rfl)
              simp only [List.getElem_toArray, List.getElem_cons_succ, List.getElem_cons_zero, Act.put, List.setIfInBounds_toArray, List.set_cons_zero, List.set_cons_succ]
              refine wpAnyH_take (i := 8) (v := ?_) rfl (by kernel_rfl) (by kernel_rfl) (by kernel_rfl) (fun _ _ _ h => h) (Or.inl ⟨by rfl, ?_⟩) hHeld3 ?_
              rotate_left
              · intro W hSw; (try dsimp only at hSw); (try go_split_ands); go_simp; (try with_reducible rfl)
              simp only [List.getElem_toArray, List.getElem_cons_succ, List.getElem_cons_zero, Act.put, List.setIfInBounds_toArray, List.set_cons_zero, List.set_cons_succ]
              refine wpAnyH_ready (rs := [10]) (by kernel_rfl) (by simp) ?_
              refine AllReadyH.cons rfl (fun K' hK => ?_) AllReadyH.nil
              rw [if_pos (by rfl)]
              refine wp_store_mid _ _ _ rfl _ _ (List.toArray _) rfl rfl (by rw [show rs.toArray.size = 4 by simpa using HR.out.2.2.1]; exact there_of_block hg4 (by simp)) (by rw [show rs.toArray.size = 4 by simpa using HR.out.2.2.1]; exact infoIn) (all_oneCell_toArray HR.out.2.2.2) ?_
              simp only [Act.put, List.setIfInBounds_toArray]
              refine hK.out _ _ (⟨cell_keep_setCells hHeld3.1 (by omega), (upd_row w3 wd.heap.size 0 rs).range hHeld3.2 (by omega)⟩) (fun hHeld4 => ?_)
              clear hK K'
              refine wpAnyH_ready (rs := [11]) (by kernel_rfl) (by simp) ?_
              refine AllReadyH.cons rfl (fun K' hK => ?_) AllReadyH.nil
              go_simp
              refine hK.out _ _ (hHeld4) (fun _ => ?_)
              clear hK K'
              refine wpAnyH_done (by kernel_rfl) ?_ _
              clear hHeld4
              go_wp2_with fail
              go_meet
              case rel => exact ⟨wd.heap.size, rs, cd, rfl, rfl, block_set hg4 (by rw [HR.out.2.2.1]; rfl), Nat.le_refl _, below_upd hB4 (upd_row w3 wd.heap.size 0 rs) (Nat.le_refl _) (fun k e => by omega), HR.out.1, HR.out.2.1⟩
          case rest =>
            subst hwd
            obtain ⟨p, rs, cd3, rfl, rfl, hgp, hp, hbx, hok, hno⟩ := hcut
            have hbs := hbx.size
            have hgA := (hbx.block _ hAlt).trans HQ.out.2.2.2.2.1
            have hgB := (hbx.block _ hBlt).trans HQ.out.2.2.2.2.2.1
            have hd2 := HQ.out.1.below hbx
            have hU2 : Upd S w wc := HQ.out.2.1.trans ((Upd.of_below (S := fun _ => False) hbx).mono (fun _ _ h => h.elim))
            have hl2 := HQ.out.2.2.1.below hbx
            have rp := range_of_block hgp
            have rB := range_of_block hgB
            have tA := there_of_block (n := 4) hgA (by simp)
            have HZ := Lib.hid (And.intro hd2 (And.intro hU2 (And.intro hl2 (And.intro hgA hgB))))
            have hplt := lt_of_block hgp
            clear hgp hp hbx hgA hgB hd2 hU2 hl2 rq c4'
            obtain ⟨k1, k2, k3, k4, k5⟩ := H.out.2.1 v HQ.out.2.2.2.2.2.2.1
            have HK2 := Lib.hid (And.intro k3 (And.intro k4 k5))
            have k3i : Hid ((Tryz.prog.info? 39).map (·.size) = some (K.ds v).length) := by show _ = _; rw [k3]; exact infoIn
            clear k1 k2 k3 k4 k5
            by_cases hk : K.ok v = true
            · obtain ⟨rfl, rfl⟩ := hok hk
              have HK := Lib.hid hk
              clear hok hno hk rB tA
              go_wp2_with (first
                | (refine wpList_load_mid rfl _ _ rfl _ _ rfl _ _ rp Tryz.underlying39 rfl k3i.out ?_)
                | fail)
              refine (numberI HZ.out.2.2.1 H.out.1 (K.nm v) (K.ds v) HK2.out.2.2 k3i.out).mono ?_
              rintro e w9 ⟨rfl, hb9⟩
              have hgA := (hb9.block _ (lt_of_block HZ.out.2.2.2.1)).trans HZ.out.2.2.2.1
              have hgB := (hb9.block _ (lt_of_block HZ.out.2.2.2.2)).trans HZ.out.2.2.2.2
              have rp9 := Below.range hb9 rp
              have rB := range_of_block hgB
              have tA := there_of_block (n := 4) hgA (by simp)
              have HD : Hid (Dv (fun j => T j ∧ j ≠ w.heap.size) w9 b F O P.tail ∧ Upd S w w9) := ⟨(HZ.out.1.below hb9).wide (fun j h => ⟨h, HT.out.2.2.2.2.2.2.2.2.2.2.2.2 j h⟩), HZ.out.2.1.trans ((Upd.of_below (S := fun _ => False) hb9).mono (fun _ _ h => h.elim))⟩
              clear hgA hgB hb9 rp
              by_cases hnm : K.nm v = (an : Int)
              · have hres : Hid (logGetR K [Value.int .i64 0, Value.int .i64 0, Value.int .i64 0, Value.int .i64 0] base n i F O P = (K.ds v, 0, P.tail)) := by show _ = _; rw [hr2.out, if_pos ⟨HK.out, by rw [HI.out]; exact hnm⟩]
                have q1 : (K.nm v == (an : Int)) = true := by simpa using hnm
                have q2 : (K.nm v != (an : Int)) = false := by simpa using hnm
                have tA2 : w9.there w.heap.size 0 (K.ds v).toArray.size := by rw [show (K.ds v).toArray.size = 4 by simpa using HK2.out.1]; exact tA
                have tA3 : w9.there w.heap.size 0 (K.ds v).length := by rw [HK2.out.1]; exact tA
                have k4i : (Tryz.prog.info? 39).map (·.size) = some (K.ds v).toArray.size := by rw [show (K.ds v).toArray.size = 4 by simpa using HK2.out.1]; exact infoIn
                have HT2 := Lib.hid (And.intro tA2 (And.intro k4i tA3))
                clear hnm tA2 k4i tA3 rB tA
                go_wp2_with (first
                  | (refine wpList_load_mid rfl _ _ rfl _ _ rfl _ _ rp9 Tryz.underlying39 rfl k3i.out ?_)
                  | (refine wpList_store_mid rfl _ _ _ rfl _ _ (K.ds v).toArray rfl rfl HT2.out.1 HT2.out.2.1 (all_oneCell_toArray HK2.out.2.1) ?_)
                  | fail)
                refine bodyPost_ret (results_mid2 rfl _ _ w.heap.size 0 (K.ds v) _ rfl (World.rangeAt_setCells_same _ _ _ _ HT2.out.2.2) Tryz.underlying39 rfl k3i.out) rfl ?_
                rw [← HI.out, hres.out]
                exact ⟨rfl, HD.out.1.keep (upd_row _ w.heap.size 0 _) (fun j h e => h.2 e) |>.wide (fun j h => HT.out.1 j h.1), HD.out.2.trans ((upd_row _ w.heap.size 0 _).mono (fun j _ e => e ▸ HAS.out))⟩
              · have hres : Hid (logGetR K [Value.int .i64 0, Value.int .i64 0, Value.int .i64 0, Value.int .i64 0] base n i F O P = ([Value.int .i64 0, Value.int .i64 0, Value.int .i64 0, Value.int .i64 0], 12, P.tail)) := by show _ = _; rw [hr2.out, if_neg (fun h => hnm (by rw [← HI.out]; exact h.2))]
                have q1 : (K.nm v == (an : Int)) = false := by simpa using hnm
                have q2 : (K.nm v != (an : Int)) = true := by simpa using hnm
                clear hnm
                go_wp2_with (first
                  | (refine wpList_load_mid rfl _ _ rfl _ _ rfl _ _ rB Tryz.underlying39 rfl infoIn ?_)
                  | (refine wpList_store_mid rfl _ _ _ rfl _ _ [Value.int .i64 0, Value.int .i64 0, Value.int .i64 0, Value.int .i64 0].toArray rfl rfl tA infoIn zOneI ?_)
                  | fail)
                refine bodyPost_ret (results_mid2 rfl _ _ w.heap.size 0 [Value.int .i64 0, Value.int .i64 0, Value.int .i64 0, Value.int .i64 0] _ rfl (World.rangeAt_setCells_same _ _ _ _ tA) Tryz.underlying39 rfl infoIn) rfl ?_
                rw [← HI.out, hres.out]
                exact ⟨rfl, HD.out.1.keep (upd_row _ w.heap.size 0 _) (fun j h e => h.2 e) |>.wide (fun j h => HT.out.1 j h.1), HD.out.2.trans ((upd_row _ w.heap.size 0 _).mono (fun j _ e => e ▸ HAS.out))⟩
            · have hk' : K.ok v = false := by simpa using hk
              have hc0 : (cd3 == 0) = false := by simpa using hno hk'
              have hres : Hid (logGetR K [Value.int .i64 0, Value.int .i64 0, Value.int .i64 0, Value.int .i64 0] base n i F O P = ([Value.int .i64 0, Value.int .i64 0, Value.int .i64 0, Value.int .i64 0], 12, P.tail)) := by show _ = _; rw [hr2.out, if_neg (fun h => hk h.1)]
              have HD : Hid (Dv (fun j => T j ∧ j ≠ w.heap.size) wc b F O P.tail ∧ Upd S w wc) := ⟨HZ.out.1.wide (fun j h => ⟨h, HT.out.2.2.2.2.2.2.2.2.2.2.2.2 j h⟩), HZ.out.2.1⟩
              clear hok hno hk hk'
              go_wp2_with (first
                | (refine wpList_load_mid rfl _ _ rfl _ _ rfl _ _ rB Tryz.underlying39 rfl infoIn ?_)
                | (refine wpList_store_mid rfl _ _ _ rfl _ _ [Value.int .i64 0, Value.int .i64 0, Value.int .i64 0, Value.int .i64 0].toArray rfl rfl tA infoIn zOneI ?_)
                | fail)
              refine bodyPost_ret (results_mid2 rfl _ _ w.heap.size 0 [Value.int .i64 0, Value.int .i64 0, Value.int .i64 0, Value.int .i64 0] _ rfl (World.rangeAt_setCells_same _ _ _ _ tA) Tryz.underlying39 rfl infoIn) rfl ?_
              rw [← HI.out, hres.out]
              exact ⟨rfl, HD.out.1.keep (upd_row _ w.heap.size 0 _) (fun j h e => h.2 e) |>.wide (fun j h => HT.out.1 j h.1), HD.out.2.trans ((upd_row _ w.heap.size 0 _).mono (fun j _ e => e ▸ HAS.out))⟩
end Go.Proofs.YtnadilfobmgebaaGreatDoor
