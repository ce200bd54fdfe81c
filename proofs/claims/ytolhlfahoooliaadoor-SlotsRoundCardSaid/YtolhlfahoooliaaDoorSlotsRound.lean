/- Every slot is given out once, in order; then none; every slot goes round and is free again. -/
import Derived.Test.YtolhlfahoooliaaDoorAwake08
import Derived.Test.YtolhlfahoooliaaDoorSlotsIt
import Derived.Test.YtolhlfahoooliaaDoorLaw
import Derived.Test.YtolhlfahoooliaaDoorCards
import Derived.Test.YtolhlfahoooliaaDoorTie
import Derived.ProofKit
import Derived.OpenShut
import Derived.Deep.DeepHandedRow
import Derived.Lib.LaidTab
namespace Go.Proofs.YtolhlfahoooliaaDoor.slotsRound
open Go Go.RowKit Go.ChangeShapes Go.WideShapes Go.ChangeAt Go.Proofs.YtolhlfahoooliaaDoor

def upL (n k : Nat) : List Int := List.replicate k 1 ++ List.replicate (n - k) 0
def dnL (n k : Nat) : List Int := List.replicate k 0 ++ List.replicate (n - k) 1
theorem upL_len {n k : Nat} (h : k ≤ n) : (upL n k).length = n := by simp [upL]; omega
theorem dnL_len {n k : Nat} (h : k ≤ n) : (dnL n k).length = n := by simp [dnL]; omega
theorem free_upL {n k : Nat} (h : k ≤ n) : free (upL n k) = k := by
  have h1 : ∀ i, i ≤ k → i ≤ free (upL n k) := by
    intro i
    induction i with
    | zero => intro _; exact Nat.zero_le _
    | succ i ih =>
      intro hi
      refine free_step (ih (by omega)) (by rw [upL_len h]; omega) ?_
      simp only [upL]
      rw [List.getElem_append_left (by simp; omega)]; simp
  by_cases hlt : k < n
  · refine free_hit (h1 k (Nat.le_refl _)) (by rw [upL_len h]; exact hlt) ?_
    simp only [upL]
    rw [List.getElem_append_right (by simp)]; simp
  · have h2 := h1 k (Nat.le_refl _)
    have h3 := free_le (upL n k)
    rw [upL_len h] at h3
    omega
theorem upL_next {n k : Nat} (h : k < n) : allocVal (upL n k) = k ∧ allocCode (upL n k) = 0 ∧ allocList (upL n k) = upL n (k + 1) := by
  have hf := free_upL (Nat.le_of_lt h)
  have hl := upL_len (Nat.le_of_lt h)
  refine ⟨by simp only [allocVal, hf, hl, if_pos h], by simp only [allocCode, hf, hl, if_pos h], ?_⟩
  show (upL n k).set (free (upL n k)) 1 = _
  rw [hf]
  simp only [upL]
  rw [List.set_append_right _ _ (by simp)]
  have : n - k = (n - (k + 1)) + 1 := by omega
  rw [this, List.replicate_succ, List.length_replicate, Nat.sub_self, List.set_cons_zero, List.replicate_succ', List.append_assoc]
  rfl
theorem upL_full (n : Nat) : allocVal (upL n n) = 0 ∧ allocCode (upL n n) = 17 ∧ allocList (upL n n) = dnL n 0 := by
  have hf := free_upL (Nat.le_refl n)
  have hl := upL_len (Nat.le_refl n)
  refine ⟨by simp [allocVal, hf, hl], by simp [allocCode, hf, hl], ?_⟩
  simp only [allocList, hf]
  rw [List.set_eq_of_length_le (by omega)]
  simp [upL, dnL]
theorem turn_ok {l : List Int} {i : Nat} {st : Int} (hi : i < l.length) (hs : stateB st = true) (hm : mayB l[i] st = true) : turnCode l i st = 0 ∧ turnList l i st = l.set i st := by
  have hgd : l.getD i 0 = l[i] := by simp [hi]
  have hc : turnCode l i st = 0 := by
    unfold turnCode
    rw [if_neg (by omega), hs, if_neg (by simp), Int.toNat_natCast, hgd, hm, if_neg (by simp)]
  exact ⟨hc, by simp [turnList, hc]⟩
theorem dnL_at {n k : Nat} (h : k < n) : ∃ h' : k < (dnL n k).length, (dnL n k)[k] = 1 := by
  refine ⟨by rw [dnL_len (Nat.le_of_lt h)]; exact h, ?_⟩
  simp only [dnL]
  rw [List.getElem_append_right (by simp)]; simp
theorem dnL_next {n k : Nat} (h : k < n) : (((dnL n k).set k 2).set k 3).set k 0 = dnL n (k + 1) := by
  rw [List.set_set, List.set_set]
  simp only [dnL]
  rw [List.set_append_right _ _ (by simp)]
  have : n - k = (n - (k + 1)) + 1 := by omega
  rw [this, List.replicate_succ, List.length_replicate, Nat.sub_self, List.set_cons_zero, List.replicate_succ', List.append_assoc]
  rfl
theorem pos_all (n : Nat) : (pos (dnL n n) 0).length = n := by
  have hl : dnL n n = List.replicate n 0 := by simp [dnL]
  have : ∀ k, k ≤ n → (posTo (List.replicate n 0) 0 k).length = k := by
    intro k
    induction k with
    | zero => intro _; rfl
    | succ k ih =>
      intro hk
      rw [posTo_hit (by simp [List.getElem?_replicate]; split <;> rfl)]
      simp [ih (by omega)]
  rw [hl]
  have h2 := this n (Nat.le_refl n)
  simp only [pos, List.length_replicate]
  exact h2

theorem early (n : Int) (w : World) (ht : Tur w) (h : n < 1 ∨ 200 < n) : Calls Tryd.prog 5 #[.int .i64 n] w fun e w' => e = .returned (.bool true) ∧ Below w.heap.size w w' := by
  have HT := Lib.hid ht; clear ht
  by_cases h1 : n < 1
  · clear h
    go_enter Tryd.func5, Tryd.ntmps5
    go_wp2_with fail
    refine (awake08 _ HT.out).mono ?_
    rintro e w3 ⟨rfl, hb⟩
    go_wp2
    go_ret
    exact ⟨rfl, hb⟩
  · have h2 : 200 < n := by omega
    clear h
    go_enter Tryd.func5, Tryd.ntmps5
    go_wp2_with fail
    refine (awake08 _ HT.out).mono ?_
    rintro e w3 ⟨rfl, hb⟩
    go_wp2
    go_ret
    exact ⟨rfl, hb⟩

set_option maxRecDepth 100000 in
theorem main (n : Nat) (w : World) (ht : Tur w) (h1 : 1 ≤ n) (h2 : n ≤ 200) : Calls Tryd.prog 5 #[.int .i64 n] w fun e w' => e = .returned (.bool true) ∧ Below w.heap.size w w' := by
  have hg : 0 < w.heap.size := ht.lt
  have side : ∀ k, ownS (.slice (some ⟨w.heap.size, 0, none⟩) n n) k → w.heap.size ≤ k := by intro k hk; simp [ownS, Value.ownBlock] at hk; omega
  have nt : Hid (¬ ownS (.slice (some ⟨w.heap.size, 0, none⟩) n n) 0) := fun h => by have := side _ h; omega
  have S := Lib.hid side
  have HT := Lib.hid ht
  clear side ht
  go_enter Tryd.func5, Tryd.ntmps5
  go_wp2_with fail
  refine (snew_ok n _ h1 (by omega)).mono ?_
  rintro e w1 ⟨rfl, hs1, hb1, hz1⟩
  have ht1 := HT.out.below hb1
  go_wp2_with fail
  go_loopg [5] n (fun g i wr => ∃ k : Nat, k + g = n ∧ i = .int .i64 k ∧ SlotsAt TS wr (w.heap.size + 1) (.slice (some ⟨w.heap.size, 0, none⟩) n n) (upL n k) ∧ Below w.heap.size w wr ∧ Tur wr)
  case atStart => exact ⟨0, by omega, rfl, by simpa [upL] using hs1, hb1, ht1⟩
  case round =>
    clear hs1 hb1 hz1 ht1 w1
    obtain ⟨k, hk, rfl, hs, hb, ht⟩ := hrel
    by_cases hlt : k < n
    · obtain ⟨e1, e2, e3⟩ := upL_next hlt
      go_wp2_with fail
      refine (alloc_any hs).mono ?_
      rw [e1, e2, e3]
      rintro e w2 ⟨rfl, hs2, hu2⟩
      have hb2 := below_upd hb hu2 (Nat.le_refl _) S.out
      have ht2 := ht.keep hu2 nt.out
      clear hs hb ht hu2 e1 e2 e3
      go_wp2
      go_roundg (gk - 1)
      case measure => omega
      case rel => exact ⟨k + 1, by omega, by go_num, hs2, hb2, ht2⟩
    · obtain rfl : k = n := by omega
      obtain ⟨e1, e2, e3⟩ := upL_full k
      go_wp2_with fail
      refine (alloc_any hs).mono ?_
      rw [e1, e2, e3]
      rintro e w2 ⟨rfl, hs2, hu2⟩
      have hb2 := below_upd hb hu2 (Nat.le_refl _) S.out
      have ht2 := ht.keep hu2 nt.out
      clear hs hb ht hu2 e1 e2 e3
      go_wp2_with fail
      go_loopg [10] k (fun g i wr => ∃ m : Nat, m + g = k ∧ i = .int .i64 m ∧ SlotsAt TS wr (w.heap.size + 1) (.slice (some ⟨w.heap.size, 0, none⟩) k k) (dnL k m) ∧ Below w.heap.size w wr ∧ Tur wr)
      case atStart => exact ⟨0, by omega, rfl, hs2, hb2, ht2⟩
      case round =>
        clear hs2 hb2 ht2
        obtain ⟨m, hm, rfl, hs, hb, ht⟩ := hrel
        by_cases hlt : m < k
        · obtain ⟨hi0, ha0⟩ := dnL_at hlt
          have c2 := turn_ok (l := dnL k m) (i := m) (st := 2) hi0 rfl (by rw [ha0]; rfl)
          have c3 := turn_ok (l := (dnL k m).set m 2) (i := m) (st := 3) (by simpa using hi0) rfl (by rw [List.getElem_set_self]; rfl)
          have c0 := turn_ok (l := ((dnL k m).set m 2).set m 3) (i := m) (st := 0) (by simpa using hi0) rfl (by rw [List.getElem_set_self]; rfl)
          rw [dnL_next hlt] at c0
          have C2 := Lib.hid c2; have C3 := Lib.hid c3; have C0 := Lib.hid c0
          clear c2 c3 c0 hi0 ha0
          go_wp2_with fail
          refine (turn_any hs ht _ _).mono ?_
          rw [C2.out.1, C2.out.2]
          rintro e w3 ⟨rfl, hs3, hu3⟩
          have hb3 := below_upd hb hu3 (Nat.le_refl _) S.out
          have ht3 := ht.keep hu3 nt.out
          clear hs hb ht hu3
          go_wp2_with fail
          refine (turn_any hs3 ht3 _ _).mono ?_
          rw [C3.out.1, C3.out.2]
          rintro e w4 ⟨rfl, hs4, hu4⟩
          have hb4 := below_upd hb3 hu4 (Nat.le_refl _) S.out
          have ht4 := ht3.keep hu4 nt.out
          clear hs3 hb3 ht3 hu4
          go_wp2_with fail
          refine (turn_any hs4 ht4 _ _).mono ?_
          rw [C0.out.1, C0.out.2]
          rintro e w5 ⟨rfl, hs5, hu5⟩
          have hb5 := below_upd hb4 hu5 (Nat.le_refl _) S.out
          have ht5 := ht4.keep hu5 nt.out
          clear hs4 hb4 ht4 hu5
          go_wp2
          go_roundg (gk - 1)
          case measure => omega
          case rel => exact ⟨m + 1, by omega, by go_num, hs5, hb5, ht5⟩
        · obtain rfl : m = k := by omega
          go_wp2_with fail
          refine (count_any hs 0 (by rw [dnL_len (Nat.le_refl _)]; omega)).mono ?_
          rw [pos_all]
          rintro e w3 ⟨rfl, hb3⟩
          have hbb := hb.trans (hb3.mono hb.size)
          have ht3 := ht.below hb3
          go_wp2_with fail
          refine (awake08 _ ht3).mono ?_
          rintro e w4 ⟨rfl, hb4⟩
          go_wp2
          go_ret
          exact ⟨rfl, hbb.trans (hb4.mono hbb.size)⟩

theorem walk (n : Int) (w : World) (ht : Tur w) : Calls Tryd.prog 5 #[.int .i64 n] w fun e w' => e = .returned (.bool true) ∧ Below w.heap.size w w' := by
  by_cases h : n < 1 ∨ 200 < n
  · exact early n w ht h
  · obtain ⟨m, rfl⟩ := Int.eq_ofNat_of_zero_le (show 0 ≤ n by omega)
    exact main m w ht (by omega) (by omega)

theorem own : ownKnob Tryd.prog.godebug = none := by kernel_rfl

theorem table {W : World} (h : laidMetH Tryd.prog Rows.slotsRoundRow.laid W) : Tur W := by
  have ht : Lib.TabIs Tryd.prog W "lavabo/slots.turns" .i64 [2, 28, 24, 17, 0] := Lib.tabIs_of_head (rest := []) gTab gTabType tabArr Tryd.underlying3 (by kernel_rfl) (by kernel_rfl) h
  exact ⟨ht.cell gTab 0 (by decide), ht.cell gTab 1 (by decide), ht.cell gTab 2 (by decide), ht.cell gTab 3 (by decide), ht.cell gTab 4 (by decide)⟩

theorem contract (H : Type) (enc : TypeId × Value → H) (W : World) (base : Nat) (args : Array Value) (ds gs : List (DataW H)) (before : List MemPlace)
    (hval : ∀ (j : Nat) t v, Tryd.f5.params[j]? = some t → args[j]? = some v → Value.okWide Tryd.prog W .any base t v)
    (hW : DataW.Whole enc Tryd.prog Tryd.f5.params.toList Rows.slotsRoundSpec.vars false W args.toList ds gs before) (hL : laidMetH Tryd.prog Rows.slotsRoundRow.laid W) :
    Calls Tryd.prog 5 args W fun e W' => ∃ v, e = .returned v ∧ Rows.slotsRoundSpec.post enc Tryd.prog Tryd.f5 false true false false W args v W' := by
  have hW' := hW
  obtain ⟨p, q, hA0, hV, rfl, hfz, hnd⟩ := hW
  have hA : DataW.TrodAll enc Tryd.prog W 0 (fun _ => true) true Tryd.f5.params.toList args.toList ds p := hA0
  rw [Tryd.params5] at hA hval
  obtain ⟨v0, vs0, d0, ds0, p0, q0, hargs, rfl, rfl, h0, r0⟩ := trodAll_cons hA
  obtain ⟨rfl, rfl, rfl⟩ := trodAll_nil r0
  obtain rfl : args = #[v0] := by cases args; simp_all
  obtain ⟨rfl, rfl⟩ := trodVars_none hV
  obtain ⟨a0, rfl, rfl, rfl, w0⟩ := open_int Tryd.underlying3 (hval 0 3 v0 rfl rfl) h0
  refine (walk a0 W (table hL)).mono fun e W' ⟨he, hb⟩ => ?_
  subst he
  exact ⟨_, rfl, law_post (T := 4) (by kernel_rfl) (by kernel_rfl) rfl Tryd.underlying4 rfl rfl hW' hb⟩

noncomputable def laidWorld (os : Os) : World :=
  { World.holding Tryd.prog os ⟨#[], #[], []⟩ with heap := (World.holding Tryd.prog os ⟨#[], #[], []⟩).heap.modify 0 fun
      | .cells _ t frozen => .cells #[.int .i64 2, .int .i64 28, .int .i64 24, .int .i64 17, .int .i64 0] t frozen
      | o => o }
theorem laid_met (os : Os) : laidMet Tryd.prog Rows.slotsRoundRow.laid ((laidWorld os).forCall (fun _ _ => 0) ⟨#[], #[.int .i64 0], []⟩).memory :=
  laidMet_of_run' 8 (by kernel_rfl) (by kernel_rfl)
theorem reads (os : Os) {H : Type} (enc : TypeId × Value → H) : ∃ places, DataW.whole enc Tryd.prog ((laidWorld os).forCall (fun _ _ => 0) ⟨#[], #[.int .i64 0], []⟩).memory Tryd.f5.params.toList Rows.slotsRoundSpec.vars false (#[.int .i64 0] : Array Value).toList 8 = some ([.lit (.int .i64 0)], [], places) :=
  ⟨[], by kernel_rfl⟩

set_option maxRecDepth 100000 in
theorem lifted (os : Os) (started : os.Started) (H : Type) (enc : TypeId × Value → H) (F : Stop.Interp) :
    ReturnsInHanded {} Tryd.checked os 5 .any ((OpenSpec.ofChange Rows.slotsRoundSpec).preRow enc Tryd.prog Tryd.f5 Rows.slotsRoundRow.domain false Rows.slotsRoundRow.laid) (((OpenSpec.ofChange Rows.slotsRoundSpec).at F).post enc Tryd.prog Tryd.f5 false true false false) := by
  obtain ⟨places, hx⟩ := reads os enc
  refine returnsInHanded_of_row (C := Tryd.checked) (s := OpenSpec.ofChange Rows.slotsRoundSpec) own started (by kernel_rfl) Tryd.func5
    (witness_row_at (enc := enc) (C := Tryd.checked) false (laidWorld os) #[.int .i64 0] rfl (by kernel_rfl) (by kernel_rfl) (by kernel_rfl)
      (OpenSpec.preRow_of_cond 8 hx (by kernel_rfl) (fun k hk => by cases hk) (by kernel_rfl) (laid_met os))) ?_
  intro W base args ds gs before hval hW _ _ _ hL _ _
  exact contract H enc W base args ds gs before hval hW hL

theorem said : Rows.SlotsRoundSaid :=
  OpenClaim.holds_of_cond 5 Tryd.f5 rfl rfl rfl rfl rfl rfl rfl ⟨rfl, rfl, rfl, rfl, rfl⟩ rfl rfl rfl rfl rfl (by kernel_rfl) Tryd.func5 (by kernel_rfl)
    (of_decide_eq_true (by kernel_rfl)) (by unfold Func.isWrapper; first | (rw [if_pos (by decide +kernel)]; kernel_rfl) | (rw [if_neg (by decide +kernel)]; exact ⟨rfl, rfl⟩))
    (fun os started H enc _ F => by rw [OpenClaim.pre_eq_preRow]; exact lifted os started H enc F)

theorem plain (f : FuncId) (fn : Func) (hf : Tryd.pinned.checked.prog.funcNamed "lavabo/lavabolaw08.SlotsRound" = some f) (hfn : Tryd.pinned.checked.prog.funcs[f]? = some fn) :
    false = Tryd.pinned.checked.prog.looks [] ∧ ∀ (j : Nat) t, fn.params[j]? = some t → Tryd.pinned.checked.prog.wantsStandIn t = false := by
  obtain rfl : f = 5 := Option.some.inj ((show Tryd.prog.funcNamed "lavabo/lavabolaw08.SlotsRound" = some 5 by kernel_rfl).symm.trans hf) |>.symm
  obtain rfl : fn = Tryd.f5 := (Option.some.inj (Tryd.func5.symm.trans hfn)).symm
  refine ⟨by kernel_rfl, fun j t ht => ?_⟩
  have hall : Tryd.f5.params.toList.all (fun t => Tryd.prog.wantsStandIn t == false) = true := by kernel_rfl
  have hm : t ∈ Tryd.f5.params.toList := by simpa using Array.mem_of_getElem? ht
  exact eq_of_beq (List.all_eq_true.1 hall t hm)

/-- THE CARD. -/
theorem card : Rows.SlotsRoundCardSaid :=
  Claim7.holds_tied_plain_at .later [] _ _ _ _ said (fun _ h => by cases h) (by kernel_rfl) (fun _ h => by cases h) slotsRound_row_tie rfl ⟨rfl, rfl⟩ (by kernel_rfl) rfl plain (by kernel_rfl)
end Go.Proofs.YtolhlfahoooliaaDoor.slotsRound
