/- A ring of pairs hands back what was put; a ring of pointers hands back the pointers, with the same pairs behind them. -/
import Derived.Test.YtolhlfahoooliaaRingPP
import Derived.Test.YtolhlfahoooliaaLaw
import Derived.Test.YtolhlfahoooliaaRows
namespace Go.Proofs.Ytolhlfahoooliaa.ringKinds
open Go Go.RowKit Go.ChangeShapes Go.WideShapes Go.ChangeAt Go.Proofs.Ytolhlfahoooliaa Go.Conc

/-- Strings as cells. -/
def strV (l : List ByteArray) : List Value := l.flatMap fun s => [.string s]
theorem get_strV {l : List ByteArray} {k : Nat} (h : k < l.length) : (strV l)[k]? = some (.string l[k]) := by
  have := flat_at (f := fun s : ByteArray => [Value.string s]) (k := 1) (fun _ => rfl) l k 0 (by decide) l[k] (List.getElem?_eq_getElem h)
  simpa [strV] using this

theorem pairsC_at : ∀ (l : List ByteArray) (i k : Nat) (h : k < l.length), (pairsC i l)[2 * k]? = some (.int .i64 (i + k : Nat)) ∧ (pairsC i l)[2 * k + 1]? = some (.string l[k])
  | [], i, k, h => by simp at h
  | s :: l, i, 0, h => by simp [pairsC]
  | s :: l, i, k + 1, h => by
    have := pairsC_at l (i + 1) k (by simpa using h)
    have e1 : 2 * (k + 1) = 2 * k + 1 + 1 := by omega
    have e2 : i + (k + 1) = i + 1 + k := by omega
    rw [e1, e2]; simpa [pairsC] using this

theorem early (v : Value) (l : List ByteArray) (w : World) (hv : Rd w 1 v l.length (strV l)) (h : 60 < l.length) :
    Calls Try.prog 3 #[v] w fun e w' => e = .returned (.bool true) ∧ Below w.heap.size w w' := by
  have hle := hv.le
  unfold maxLen at hle
  obtain ⟨ao, c, rfl⟩ := hv.nil_iff
  clear hv
  go_enter Try.func3, Try.ntmps3
  go_wp2_with fail
  refine (awake02 _).mono ?_
  rintro e w' ⟨rfl, hb⟩
  go_wp2
  go_ret
  exact ⟨rfl, hb⟩

/-- What lies behind the pointers. -/
def Behind (N : Nat) (w : World) (ps : List Nat) (l : List ByteArray) : Prop :=
  ps.length = l.length ∧ ∀ (i : Nat) (h : i < l.length) (h' : i < ps.length), N ≤ ps[i] ∧ w.heap[ps[i]]? = some (pairB i l[i])

theorem Behind.keep {N : Nat} {w w' : World} {ps : List Nat} {l : List ByteArray} (h : Behind N w ps l) {S : Nat → Prop} (hu : Upd S w w') (hS : ∀ j, S j → j < N) : Behind N w' ps l :=
  ⟨h.1, fun i hi hi' => ⟨(h.2 i hi hi').1, (hu.block _ (lt_of_block (h.2 i hi hi').2) (fun hs => by have := hS _ hs; have := (h.2 i hi hi').1; omega)).trans (h.2 i hi hi').2⟩⟩
theorem Behind.snoc {N : Nat} {w : World} {ps : List Nat} {l : List ByteArray} (h : Behind N w ps l) (s : ByteArray) (hN : N ≤ w.heap.size) : Behind N (w.alloc (pairB l.length s)) (ps ++ [w.heap.size]) (l ++ [s]) := by
  refine ⟨by simp [h.1], fun i hi hi' => ?_⟩
  by_cases hlt : i < l.length
  · have := (h.keep ((Upd.refl (fun _ => False) w).alloc (pairB l.length s)) (fun _ h => h.elim)).2 i hlt (by have := h.1; omega)
    rw [List.getElem_append_left (by have := h.1; omega), List.getElem_append_left hlt]; exact this
  · obtain rfl : i = l.length := by simp at hi; omega
    have e : (ps ++ [w.heap.size])[l.length] = w.heap.size := by rw [List.getElem_append_right (by have := h.1; omega)]; simp
    rw [e]
    exact ⟨hN, by simpa using heap_alloc_last w (pairB l.length s) rfl⟩

set_option maxRecDepth 100000 in
set_option maxHeartbeats 2000000 in
theorem main (v : Value) (l : List ByteArray) (w : World) (hv : Rd w 1 v l.length (strV l)) (hl : l.length ≤ 60) :
    Calls Try.prog 3 #[v] w fun e w' => e = .returned (.bool true) ∧ Below w.heap.size w w' := by
  have HV := Lib.hid hv
  obtain ⟨ao, c, rfl⟩ := hv.nil_iff
  clear hv
  go_enter Try.func3, Try.ntmps3
  go_wp2_with fail
  refine (new_pair _).mono ?_
  rintro e w1 ⟨rfl, hq1, hb1, hz1⟩
  go_wp2_with fail
  refine (new_ptr _).mono ?_
  rintro e w2 ⟨rfl, hp2, hb2, hz2⟩
  have hq2 := hq1.keep (Upd.of_below (S := fun _ => False) hb2) (fun h => h) (fun h => h)
  have hbb2 := hb1.trans (hb2.mono hb1.size)
  rw [hz1] at hp2
  go_wp2_with fail
  go_loopg [7] l.length (fun g i wr => ∃ (k : Nat) (ps : List Nat), k + g = l.length ∧ i = .int .i64 k ∧ RingAt 67 wr (w.heap.size + 1) w.heap.size 64 (pairsV 0 (l.take k)) false ∧
     RingAt 70 wr (w.heap.size + 2 + 1) (w.heap.size + 2) 64 (ps.map ringPtr) false ∧ Behind (w.heap.size + 4) wr ps (l.take k) ∧ Below w.heap.size w wr ∧ w.heap.size + 4 ≤ wr.heap.size)
  case atStart => exact ⟨0, [], by omega, rfl, by simpa [pairsV] using hq2, hp2, ⟨by simp, fun i h => by simp at h⟩, hbb2, by omega⟩
  case round =>
    clear hq1 hb1 hz1 hp2 hb2 hz2 hq2 hbb2 w1 w2
    obtain ⟨k, ps, hk, rfl, hq, hp, hbe, hb, hsz⟩ := hrel
    by_cases hlt : k < l.length
    · obtain ⟨bl, off, c', hvv, hbl, hcells⟩ := HV.out.at (by omega)
      cases hvv
      have hc : wr.cell? ⟨bl, off + k, none⟩ = some (.string l[k]) := (hb.cell hbl).trans (hcells k _ (get_strV hlt))
      clear hcells
      have htk : Hid ((l.take k).length = k) := by show _ = _; simp; omega
      have hnx : Hid (l.take (k + 1) = l.take k ++ [l[k]]) := List.take_succ_eq_append_getElem hlt
      have hpl : Hid (ps.length = k) := by show _ = _; rw [hbe.1, htk.out]
      go_wp2_with fail
      refine (put_pair hq k l[k] (by rw [pairsV_len, htk.out]; omega)).mono ?_
      rintro e w3 ⟨rfl, hq3, hu3⟩
      have hb3 := below_upd hb hu3 (Nat.le_refl _) (bc_ge (by omega) (by omega))
      have hp3 := hp.keep hu3 (by rintro (h | h) <;> omega) (by rintro (h | h) <;> omega)
      have hbe3 := hbe.keep hu3 (bc_lt (by omega) (by omega))
      have hc3 : w3.cell? ⟨bl, off + k, none⟩ = some (.string l[k]) := (hb3.cell hbl).trans ((hb.cell hbl).symm.trans hc)
      have hsz3 := Nat.le_trans hsz hu3.size
      clear hq hp hbe hb hu3 hc
      have hpr : Hid (w3.heap.size = w3.heap.size) := rfl
      have hbe4 := hbe3.snoc l[k] hsz3
      rw [htk.out] at hbe4
      have hA := (Upd.refl (fun _ => False) w3).alloc (pairB k l[k])
      have hq4 := hq3.keep hA (fun h => h) (fun h => h)
      have hp4 := hp3.keep hA (fun h => h) (fun h => h)
      have hb4 := below_upd hb3 hA (Nat.le_refl _) (fun _ h => h.elim)
      clear hq3 hp3 hb3 hbe3
      go_wp2_with fail
      refine (put_ptr hp4 w3.heap.size (by rw [List.length_map, hpl.out]; omega)).mono ?_
      rintro e w5 ⟨rfl, hp5, hu5⟩
      have hb5 := below_upd hb4 hu5 (Nat.le_refl _) (bc_ge (by omega) (by omega))
      have hq5 := hq4.keep hu5 (by rintro (h | h) <;> omega) (by rintro (h | h) <;> omega)
      have hbe5 := hbe4.keep hu5 (bc_lt (by omega) (by omega))
      have hsz5 : w.heap.size + 4 ≤ w5.heap.size := by have := hu5.size; simp at this; omega
      clear hq4 hp4 hb4 hbe4 hu5
      go_wp2
      go_roundg (gk - 1)
      case measure => omega
      case rel =>
        refine ⟨k + 1, ps ++ [w3.heap.size], by omega, by go_num, ?_, ?_, ?_, hb5, hsz5⟩
        · rw [hnx.out, pairsV_append, htk.out]; simpa [pairsV] using hq5
        · simpa using hp5
        · rw [hnx.out]; exact hbe5
    · obtain rfl : k = l.length := by omega
      rw [List.take_length] at hq hbe
      have HP := Lib.hid hbe.1
      clear hk
      go_wp2_with fail
      refine (drain_pair hq (by decide)).mono ?_
      rintro e w3 ⟨v, rfl, hs3, ho3, hu3⟩
      have hb3 := below_upd hb hu3 (Nat.le_refl _) (bc_ge (by omega) (by omega))
      have hp3 := hp.keep hu3 (by rintro (h | h) <;> omega) (by rintro (h | h) <;> omega)
      have hbe3 := hbe.keep hu3 (bc_lt (by omega) (by omega))
      have hsz3 := Nat.le_trans hsz hu3.size
      replace ho3 := ho3.mono hsz
      clear hq hp hbe hb hu3 hsz
      obtain ⟨vo, vc, rfl⟩ := hs3.rd.nil_iff
      go_wp2_with (go_at_call 15; refine (len_ptr hp3).mono ?_; rintro e w' ⟨rfl, rfl⟩; rw [List.length_map, HP.out])
      go_loopg [9] l.length (fun g i wr => ∃ (k : Nat), k + g = l.length ∧ i = .int .i64 k ∧
         RingAt 70 wr (w.heap.size + 2 + 1) (w.heap.size + 2) 64 ((ps.drop k).map ringPtr) false ∧ Behind (w.heap.size + 4) wr ps l ∧ Below w.heap.size w wr ∧ w.heap.size + 4 ≤ wr.heap.size ∧
         Sl wr 29 2 (.slice vo l.length vc) l.length (pairsC 0 l))
      case atStart => exact ⟨0, by omega, rfl, by simpa using hp3, hbe3, hb3, hsz3, hs3⟩
      case round =>
        clear hp3 hbe3 hb3 hsz3 hs3
        obtain ⟨k, hk, rfl, hp, hbe, hb, hsz, hs⟩ := hrel
        by_cases hlt : k < l.length
        · have hlp : k < ps.length := by rw [HP.out]; exact hlt
          rw [List.drop_eq_getElem_cons hlp, List.map_cons] at hp
          obtain ⟨bl, off, c', hvv, hbl, hcells⟩ := HV.out.at (by omega)
          cases hvv
          go_wp2_with fail
          refine (take_ptr_some hp).mono ?_
          rintro e w3 ⟨rfl, hp3, hu3⟩
          have hb3 := below_upd hb hu3 (Nat.le_refl _) (bc_ge (by omega) (by omega))
          have hbe3 := hbe.keep hu3 (bc_lt (by omega) (by omega))
          have hs3 := hs.keep_lt ho3 hu3 (bc_lt (by omega) (by omega))
          have hsz3 := Nat.le_trans hsz hu3.size
          have hc : w3.cell? ⟨bl, off + k, none⟩ = some (.string l[k]) := (hb3.cell hbl).trans (hcells k _ (get_strV hlt))
          obtain ⟨g', goff', gc', cur', hgg', hgb', hgs', hgc'⟩ := hs3.at (by omega)
          cases hgg'
          have hv0 := (cell_of_block hgb' (goff' + 2 * k)).trans (hgc' _ _ (pairsC_at l 0 k hlt).1)
          have hv1 := (cell_of_block hgb' (goff' + (2 * k + 1))).trans (hgc' _ _ (pairsC_at l 0 k hlt).2)
          have hpk := (hbe3.2 k hlt hlp).2
          have hp0 := cell_of_block hpk 0
          have hp1 := cell_of_block hpk 1
          simp at hp0 hp1
          have e0 : (0 + k : Nat) = k := by omega
          rw [e0] at hv0
          have e2 : goff' + 2 * k = goff' + k * 2 := by omega
          have e3 : goff' + (2 * k + 1) = goff' + k * 2 + 1 := by omega
          rw [e2] at hv0
          rw [e3] at hv1
          have HS3 := Lib.hid hs3; have HB3 := Lib.hid hb3; have HBE := Lib.hid hbe3; have HR3 := Lib.hid hp3
          clear hs3 hb3 hbe3 hp3 hgb' hgc' hgs' hcells hp hbe hb hu3 hs hpk
          go_wp2
          go_quiet (fail)
          go_wp2
          have hd : Upd (fun _ => False) w3 (w3.drewN nq) := (Upd.refl _ _).drewN nq
          go_roundg (gk - 1)
          case measure => omega
          case rel =>
            exact ⟨k + 1, by omega, by go_num, HR3.out.keep hd (fun h => h) (fun h => h), HBE.out.keep hd (fun _ h => h.elim), below_drewN HB3.out nq, hsz3, HS3.out.keep hd (fun _ _ h => h)⟩
        · obtain rfl : k = l.length := by omega
          rw [← HP.out, List.drop_length, List.map_nil] at hp
          clear hbe hs
          go_wp2_with fail
          refine (take_ptr_none hp).mono ?_
          rintro e w3 ⟨rfl, rfl⟩
          go_wp2_with fail
          refine (awake02 _).mono ?_
          rintro e w4 ⟨rfl, hb4⟩
          go_wp2
          go_ret
          exact ⟨rfl, hb.trans (hb4.mono hb.size)⟩

theorem walk (v : Value) (l : List ByteArray) (w : World) (hv : Rd w 1 v l.length (strV l)) :
    Calls Try.prog 3 #[v] w fun e w' => e = .returned (.bool true) ∧ Below w.heap.size w w' := by
  by_cases h : 60 < l.length
  · exact early v l w hv h
  · exact main v l w hv (by omega)

theorem own : ownKnob Try.prog.godebug = none := by kernel_rfl

set_option maxRecDepth 100000 in
theorem lifted (os : Os) (started : os.Started) (H : Type) (enc : TypeId × Value → H) :
    ReturnsInHanded {} Try.checked os 3 .any (Rows.ringKindsSpec.pre6 enc Try.prog Try.f3 Rows.ringKindsRow.domain false) (Rows.ringKindsSpec.post enc Try.prog Try.f3 false true false false) := by
  refine returnsInHanded_of_change (C := Try.checked) own started (by kernel_rfl) Try.func3
    (ChangeSpec.witness6 (enc := enc) (C := Try.checked) false ⟨#[], #[.slice none 0 0], []⟩ 8 (by kernel_rfl) (by kernel_rfl) (by kernel_rfl) (by kernel_rfl)) ?_
  intro W base args ds gs before hval0 hW hcnd _
  have hval : ∀ (j : Nat) t v, Try.f3.params[j]? = some t → args[j]? = some v → Value.okWide Try.prog W .any base t v := hval0
  have hW' := hW
  obtain ⟨p, q, hA0, hV, rfl, hfz, hnd⟩ := hW
  have hA : DataW.TrodAll enc Try.prog W 0 (fun _ => true) true Try.f3.params.toList args.toList ds p := hA0
  rw [Try.params3] at hA hval
  obtain ⟨v0, vs0, d0, ds0, p0, q0, hargs, rfl, rfl, h0, r0⟩ := trodAll_cons hA
  obtain ⟨rfl, rfl, rfl⟩ := trodAll_nil r0
  obtain rfl : args = #[v0] := by cases args; simp_all
  obtain ⟨rfl, rfl⟩ := trodVars_none hV
  obtain ⟨l, hl, _⟩ := open_rd (fun s : ByteArray => [Value.string s]) (fun _ => True) (fun _ => rfl) (by decide) Try.underlying22 (by kernel_rfl) (fun n cs x h => by obtain ⟨s, h1, _⟩ := DataW.trod_string Try.underlying9 h; exact ⟨s, h1, trivial⟩) (hval 0 22 v0 rfl rfl) h0
  refine (walk v0 l W hl).mono fun e W' ⟨he, hb⟩ => ?_
  subst he
  exact ⟨_, rfl, law_post (T := 4) (by kernel_rfl) (by kernel_rfl) rfl Try.underlying4 rfl rfl hW' hb⟩

theorem over : Rows.ringKindsRow.holds Try.pinned (OpenSpec.ofChange Rows.ringKindsSpec) :=
  OpenClaim.holds_of_wide 3 Try.f3 rfl rfl rfl rfl rfl rfl rfl ⟨rfl, rfl, rfl, rfl, rfl⟩ rfl rfl rfl rfl rfl (by kernel_rfl) Try.func3 (by kernel_rfl)
    (of_decide_eq_true (by kernel_rfl)) (by unfold Func.isWrapper; first | (rw [if_pos (by decide +kernel)]; kernel_rfl) | (rw [if_neg (by decide +kernel)]; exact ⟨rfl, rfl⟩))
    (fun os started H enc _ => lifted os started H enc)

/-- The statement. -/
theorem proved : Rows.RingKindsSaid :=
  over
end Go.Proofs.Ytolhlfahoooliaa.ringKinds
