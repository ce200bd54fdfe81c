/- The law's 'does', beside an empty clock of the document's; keys and ghosts of a clock. -/
import Derived.Test.YtmgcekpfnkcmjaaRef07
import Derived.Test.YtmgcekpfnkcmjaaGhosts
import Derived.Deep.RegionHeld3
namespace Go.Proofs.Ytmgcekpfnkcmjaa
open Go Go.RowKit

theorem Upd.undrew' {S : Nat → Prop} {w w' : World} (h : Upd S w.drew w') : Upd S w w' := ⟨h.os, h.tape, h.output, h.size, h.block⟩

/-- A clock of twelve keys and six ghosts, whatever it holds. -/
def Cl (S : Nat → Prop) (w : World) (b N : Nat) : Prop := ∃ K A G, Ck S w b N 12 6 K A G
section
variable {S : Nat → Prop} {w w' : World} {b N : Nat}
theorem Cl.keep (h : Cl S w b N) {T : Nat → Prop} (hu : Upd T w w') (hs : ∀ j, S j → ¬ T j) : Cl S w' b N := by obtain ⟨K, A, G, h⟩ := h; exact ⟨K, A, G, h.keep hu hs⟩
theorem Cl.new (h : Cl S w b N) (hu : Upd (fun _ => False) w w') : Cl S w' b N := h.keep hu (fun _ _ h => h)
theorem Cl.out (h : Cl S w b N) {S' : Nat → Prop} (hs : ∀ j, j < w.heap.size → S j → S' j) : Cl S' w b N := by obtain ⟨K, A, G, h⟩ := h; exact ⟨K, A, G, h.out hs⟩
theorem Cl.mono (h : Cl S w b N) {N' : Nat} (hn : N ≤ N') : Cl S w b N' := by obtain ⟨K, A, G, h⟩ := h; exact ⟨K, A, G, h.mono hn⟩
end

abbrev opV (a k : Int) : Value := .agg #[.int .i64 a, .int .i64 k]

set_option maxRecDepth 100000 in
set_option maxHeartbeats 2000000 in
theorem does_cl {S : Nat → Prop} {w : World} {b rb N : Nat} (h : Cl S w b N) (hn : ∀ j, w.heap.size ≤ j → S j) (hr : RfAt w rb) (hrb : ¬ S rb) (hN : N < maxLen) (a k : Int) (hk : InR k) :
    Calls Try.prog 30 #[.pointer (some ⟨b, 0, none⟩), .pointer (some ⟨rb, 0, none⟩), opV a k] w fun e w' => (∃ bb, e = .returned (.bool bb)) ∧ Cl S w' b (N + 1) ∧ Upd (fun j => S j ∨ j = rb) w w' := by
  have hrl : rb < w.heap.size := lt_of_block hr
  have hu0 : Upd (fun _ => False) w (w.alloc (.cells #[.int .i64 a, .int .i64 k] 70)) := (Upd.refl _ _).alloc _
  have h0 : Cl (fun j => S j ∧ j ≠ w.heap.size) (w.alloc (.cells #[.int .i64 a, .int .i64 k] 70)) b N := (h.out (fun j hj hs => ⟨hs, by omega⟩)).new hu0
  have hn0 : ∀ j, (w.alloc (.cells #[.int .i64 a, .int .i64 k] 70)).heap.size ≤ j → S j ∧ j ≠ w.heap.size := fun j hj => by simp at hj; exact ⟨hn j (by omega), by omega⟩
  have hr0 := hr.keep hu0 (fun h => h)
  have hbx := heap_alloc_last w (.cells #[.int .i64 a, .int .i64 k] 70) rfl
  have g0 : (w.alloc (.cells #[.int .i64 a, .int .i64 k] 70)).cell? ⟨w.heap.size, 0, none⟩ = some (.int .i64 a) := cell_of_block hbx 0
  have g1 : (w.alloc (.cells #[.int .i64 a, .int .i64 k] 70)).cell? ⟨w.heap.size, 1, none⟩ = some (.int .i64 k) := cell_of_block hbx 1
  have P0 := Lib.hid (And.intro h0 (And.intro hn0 (And.intro hr0 (And.intro hu0 (And.intro g0 g1)))))
  clear h h0 hn0 hr0 hu0 hbx g0 g1 hn hr
  have fin : Hid (∀ (w3 w4 : World), Cl (fun j => S j ∧ j ≠ w.heap.size) w3 b (N + 1) → Upd (fun j => S j ∧ j ≠ w.heap.size) (w.alloc (.cells #[.int .i64 a, .int .i64 k] 70)) w3 → Upd (fun j => j = rb) w3 w4 →
      Cl S w4 b (N + 1) ∧ Upd (fun j => S j ∨ j = rb) w w4) := fun w3 w4 hc hu3 hu4 =>
    ⟨(hc.keep hu4 (fun j hj e => hrb (e ▸ hj.1))).out (fun j _ hj => hj.1),
      ((P0.out.2.2.2.1.mono (fun _ _ h => h.elim)).trans (hu3.mono (fun j _ hj => .inl hj.1))).trans (hu4.mono (fun j _ hj => .inr hj))⟩
  rcases (by omega : a = 0 ∨ a = 1 ∨ a = 2 ∨ (a ≠ 0 ∧ a ≠ 1 ∧ a ≠ 2)) with rfl | rfl | rfl | ⟨h0, h1, h2⟩
  · obtain ⟨K, A, G, hc⟩ := P0.out.1
    have HC : Hid (Ck (fun j => S j ∧ j ≠ w.heap.size) (w.alloc (.cells #[.int .i64 0, .int .i64 k] 70)).drew b N 12 6 K A G) := hc.new ((Upd.refl _ _).drew)
    have HN : Hid (∀ j, (w.alloc (.cells #[.int .i64 0, .int .i64 k] 70)).drew.heap.size ≤ j → S j ∧ j ≠ w.heap.size) := P0.out.2.1
    clear hc
    go_enter Try.func30, Try.ntmps30
    go_wp2
    go_region_held3 (fun W => W.cell? ⟨w.heap.size, 1, none⟩ = some (.int .i64 k)) (go_keep)
      (first
      | ((go_at_call 35; refine (kadd_any HC.out HN.out k hk hN).mono ?_; rintro e w3 ⟨rfl, hc3, hu3⟩; have hu3 := hu3.undrew'; have k1 := (hu3.cellAt (o := 1) (b := w.heap.size) (by simp) (fun h => h.2 rfl)).trans P0.out.2.2.2.2.2; have hr3 := Lib.hid (P0.out.2.2.1.keep hu3 (fun h => hrb h.1)); have F3 := Lib.hid (And.intro hc3 hu3); clear hc3 hu3))
      | ((go_at_call 63; refine (radd hr3.out k).mono ?_; rintro e w4 ⟨rfl, hu4⟩; have k2 := (hu4.cellAt (o := 1) (b := w.heap.size) (Nat.lt_of_lt_of_le (Nat.lt_succ_self _) (by have := F3.out.2.size; simp at this; exact this)) (by omega)).trans k1; have F4 := Lib.hid hu4; clear hu4)))
    go_wp2
    go_ret
    exact ⟨⟨_, rfl⟩, fin.out w3 w4 ⟨_, _, _, F3.out.1⟩ F3.out.2 F4.out⟩
  · obtain ⟨K, A, G, hc⟩ := P0.out.1
    have HC : Hid (Ck (fun j => S j ∧ j ≠ w.heap.size) (w.alloc (.cells #[.int .i64 1, .int .i64 k] 70)).drew b N 12 6 K A G) := hc.new ((Upd.refl _ _).drew)
    have HN : Hid (∀ j, (w.alloc (.cells #[.int .i64 1, .int .i64 k] 70)).drew.heap.size ≤ j → S j ∧ j ≠ w.heap.size) := P0.out.2.1
    clear hc
    go_enter Try.func30, Try.ntmps30
    go_wp2
    go_region_held3 (fun W => W.cell? ⟨w.heap.size, 1, none⟩ = some (.int .i64 k)) (go_keep)
      (first
      | ((go_at_call 37; refine (ktouch_ck HC.out k hN).mono ?_; rintro e w3 ⟨rfl, hc3, hu3⟩; have hu3 := hu3.undrew'; have k1 := (hu3.cellAt (o := 1) (b := w.heap.size) (by simp) (fun h => h.2 rfl)).trans P0.out.2.2.2.2.2; have hr3 := Lib.hid (P0.out.2.2.1.keep hu3 (fun h => hrb h.1)); have F3 := Lib.hid (And.intro hc3 hu3); clear hc3 hu3))
      | ((go_at_call 64; refine (rtouch hr3.out k).mono ?_; rintro e w4 ⟨rfl, rfl⟩)))
    go_wp2
    go_ret
    exact ⟨⟨_, rfl⟩, fin.out w4 w4 ⟨_, _, _, F3.out.1⟩ F3.out.2 (Upd.refl _ _)⟩
  · obtain ⟨K, A, G, hc⟩ := P0.out.1
    have HC : Hid (Ck (fun j => S j ∧ j ≠ w.heap.size) (w.alloc (.cells #[.int .i64 2, .int .i64 k] 70)).drew b N 12 6 K A G) := hc.new ((Upd.refl _ _).drew)
    have HN : Hid (∀ j, (w.alloc (.cells #[.int .i64 2, .int .i64 k] 70)).drew.heap.size ≤ j → S j ∧ j ≠ w.heap.size) := P0.out.2.1
    clear hc
    go_enter Try.func30, Try.ntmps30
    go_wp2
    go_region_held3 (fun W => W.cell? ⟨w.heap.size, 1, none⟩ = some (.int .i64 k)) (go_keep)
      (first
      | ((go_at_call 33; refine (kdrop_any HC.out k).mono ?_; rintro e w3 ⟨rfl, hc3, hu3⟩; have hu3 := hu3.undrew'; have k1 := (hu3.cellAt (o := 1) (b := w.heap.size) (by simp) (fun h => h.2 rfl)).trans P0.out.2.2.2.2.2; have hr3 := Lib.hid (P0.out.2.2.1.keep hu3 (fun h => hrb h.1)); have F3 := Lib.hid (And.intro hc3 hu3); clear hc3 hu3))
      | ((go_at_call 65; refine (rdrop hr3.out k).mono ?_; rintro e w4 ⟨rfl, rfl⟩)))
    go_wp2
    go_ret
    exact ⟨⟨_, rfl⟩, fin.out w4 w4 (Cl.mono ⟨_, _, _, F3.out.1⟩ (by omega)) F3.out.2 (Upd.refl _ _)⟩
  · obtain ⟨K, A, G, hc⟩ := P0.out.1
    have HC := Lib.hid hc
    have q0 : (a == 0) = false := by simpa using h0
    have q1 : (a == 1) = false := by simpa using h1
    have q2 : (a == 2) = false := by simpa using h2
    have g0 := P0.out.2.2.2.2.1
    have g1 := P0.out.2.2.2.2.2
    clear hc h0 h1 h2
    go_enter Try.func30, Try.ntmps30
    go_wp2_with fail
    refine (evict_ck HC.out P0.out.2.1 k hk).mono ?_
    rintro e w3 ⟨key, code, K', A', G', rfl, ho, hc3, hu3⟩
    have k1 := (hu3.cellAt (o := 1) (b := w.heap.size) (by simp) (fun h => h.2 rfl)).trans P0.out.2.2.2.2.2
    have hr3 := Lib.hid (P0.out.2.2.1.keep hu3 (fun h => hrb h.1))
    have F3 := Lib.hid (And.intro hc3 hu3)
    have HM : Hid (code = 14 ∨ code = 0) := ho.elim (fun h => .inl h.1) (fun h => .inr h.1)
    clear hc3 hu3 ho g0 g1
    go_wp2_with fail
    all_goals
      refine (revict hr3.out _).mono ?_
      rintro e w4 ⟨rfl, rfl⟩
      rcases Bool.eq_false_or_eq_true (key == 0) with hq | hq
    all_goals
      go_wp2
      go_ret
      exact ⟨⟨_, rfl⟩, fin.out w4 w4 (Cl.mono ⟨_, _, _, F3.out.1⟩ (by omega)) F3.out.2 (Upd.refl _ _)⟩

theorem keys_ck {S : Nat → Prop} {w : World} {b N most few : Nat} {K G : List Int} {A : Int → Bool} (h : Ck S w b N most few K A G) :
    Calls Try.prog 36 #[.pointer (some ⟨b, 0, none⟩)] w (KeysPost w (kaL K A)) := by
  refine keys_of _ _ (by rw [kaL_len]; have := h.good; exact Nat.le_trans this.kl this.ml) w fun W hW => ?_
  exact kall_gives (h.new (Upd.of_below hW))
/-- What keys answers of a clock. -/
def KeysIs (w : World) (K : List Int) (A : Int → Bool) (e : Ending) (w' : World) : Prop :=
  ∃ v u, e = .returned (.tuple #[v, u, .bool true]) ∧ Sl w' 3 1 v K.length (ints K) ∧ Sl w' 4 1 u K.length (bools (K.map A)) ∧ From w.heap.size v ∧ From w.heap.size u ∧ Below w.heap.size w w'
theorem keys_is {S : Nat → Prop} {w : World} {b N most few : Nat} {K G : List Int} {A : Int → Bool} (h : Ck S w b N most few K A G) :
    Calls Try.prog 36 #[.pointer (some ⟨b, 0, none⟩)] w (KeysIs w K A) := by
  refine (keys_ck h).mono ?_
  rintro e w' ⟨v, u, h1, h2, h3, h4⟩
  have e1 : (kaL K A).map (·.1) = K := by simp [kaL, Function.comp_def]
  have e2 : (kaL K A).map (·.2) = K.map A := by simp [kaL, Function.comp_def]
  rw [kaL_len, e1] at h2
  rw [kaL_len, e2] at h3
  exact ⟨v, u, h1, h2, h3, h4⟩
theorem ghosts_ck {S : Nat → Prop} {w : World} {b N most few : Nat} {K G : List Int} {A : Int → Bool} (h : Ck S w b N most few K A G) :
    Calls Try.prog 40 #[.pointer (some ⟨b, 0, none⟩)] w (GhostsPost w G) := by
  refine ghosts_of _ _ (by have := h.good; exact Nat.le_trans this.gl this.fl) w fun W hW => ?_
  exact kghosts_gives (h.new (Upd.of_below hW))
theorem keys_nil (w : World) : Calls Try.prog 36 #[.pointer none] w (KeysPost w []) :=
  keys_of _ _ (by simp) w fun W _ => kall_gives_nil W
theorem ghosts_nil (w : World) : Calls Try.prog 40 #[.pointer none] w (GhostsPost w []) :=
  ghosts_of _ _ (by simp) w fun W _ => kghosts_gives_nil W
end Go.Proofs.Ytmgcekpfnkcmjaa
