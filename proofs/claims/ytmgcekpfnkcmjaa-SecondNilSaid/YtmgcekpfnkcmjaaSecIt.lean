/- The iterators over a clock's keys, and over its ghosts: their contracts. -/
import Derived.RangeFuncNested
import Derived.RangeFuncBound
import Derived.RangeFuncCalls
import Derived.RangeFuncLeaves
import Derived.RangeFuncBox
import Derived.Shelf.Abstract
import Derived.WalkKit
import Derived.OwnWalkIn
import Derived.TacticsInMore
import Derived.LoopNIn
import Derived.LoopIn
import Derived.BigRegionIn
import Derived.Shelf.RegionOpen
import Derived.Maps.AppendAt
import Derived.Test.YtmgcekpfnkcmjaaEvict
namespace Go.Proofs.Ytmgcekpfnkcmjaa
open Go Go.RowKit Go.Shelf
attribute [local go_sem] Oper.semAt_some

abbrev It7 := Int × Bool
abbrev enc7 (x : It7) : Array Value := #[.int .i64 x.1, .bool x.2]
abbrev encI (x : Int) : Array Value := #[.int .i64 x]
/-- The keys, and whether they were asked for. -/
def kaL (K : List Int) (A : Int → Bool) : List It7 := K.map fun k => (k, A k)
theorem kaL_len (K : List Int) (A : Int → Bool) : (kaL K A).length = K.length := by simp [kaL]
theorem kaL_take (K : List Int) (A : Int → Bool) {k : Nat} (h : k < K.length) : (kaL K A).take (k + 1) = (kaL K A).take k ++ [(K[k], A K[k])] := by
  rw [List.take_succ_eq_append_getElem (by rw [kaL_len]; exact h)]; simp [kaL]

theorem abides_new {β : Type} {B : Nat} {J : β → World → Prop} (hJ : AbidesFrom B J) {s : β} {W W' : World} (h : J s W) (hu : Upd (fun _ => False) W W') : J s W' :=
  hJ s W W' none h ⟨hu.os, hu.tape, hu.output, hu.size, fun k hk _ => hu.block k hk (fun h => h)⟩ (fun r e => by cases e)

set_option maxRecDepth 100000 in
set_option maxHeartbeats 2000000 in
theorem ka_in (n : Nat) (hn : 2 ≤ n) (S : Nat → Prop) (l Bs Bm mb N : Nat) (K : List Int) (A : Int → Bool) (v : Value)
    (hle : K.length ≤ 4096) (hr : ∀ x ∈ K, InR x) (hv : ∀ g, v.ownBlock = some g → ¬ S g) (hBm : ¬ S Bm) (hmb : ¬ S mb) (J Jx : List It7 → World → Prop) (B0 : Nat) (hJ : AbidesFrom B0 J)
    (hY : ∀ pre (x : It7) W, J pre W → pre.length < K.length → YieldAt Fence.wide (n - 1) Try.prog l (enc7 x) W fun e W' =>
      (e = .returned (.bool true) ∧ J (pre ++ [x]) W' ∧ Upd S W W') ∨ (e = .returned (.bool false) ∧ Jx (pre ++ [x]) W'))
    (W : World) (hBs : W.cell? ⟨Bs, 0, none⟩ = some v) (hcm : W.cell? ⟨Bm, 0, none⟩ = some (.map (some mb))) (hs : Sl W 3 1 v K.length (ints K)) (ha : SetAt W mb N A) (h0 : J [] W) :
    CallsIn Fence.wide n Try.prog 93 #[.func (.yield l) #[] #[], .pointer (some ⟨Bs, 0, none⟩), .pointer (some ⟨Bm, 0, none⟩)] W fun e W' => (∃ v, e = .returned v) ∧
      ((∃ ys, ys = kaL K A ∧ J ys W') ∨ (∃ pre, pre <+: kaL K A ∧ Jx pre W')) := by
  have HS := Lib.hid hs
  have HA := Lib.hid ha
  have HV := Lib.hid hv
  have HR := Lib.hid hr
  have hBmW := (addr_of_cell hcm).2
  obtain ⟨ao, c, rfl⟩ := hs.rd.nil_iff
  clear hs ha hv hr
  refine callsIn_of_wp Try.func93 rfl trivial ?_ rfl
  simp only [Try.ntmps93, List.size_toArray, List.length_cons, List.length_nil, Nat.reduceAdd, Nat.reduceSub, Array.replicate_succ, Array.replicate_zero, List.push_toArray, List.append_toArray, List.nil_append, List.cons_append]
  gi_wp2
  gi_loopw [8] (fun i wr => ∃ k : Nat, k ≤ K.length ∧ i = .int .i64 k ∧ J ((kaL K A).take k) wr ∧ Upd S W wr)
    (fun i _ => K.length - (intOf i).toNat)
  case atStart => exact ⟨0, Nat.zero_le _, rfl, h0, Upd.refl _ _⟩
  case round =>
    obtain ⟨k, hk, rfl, hJs, hnx⟩ := hrel
    have hcm' : wr.cell? ⟨Bm, 0, none⟩ = some (.map (some mb)) := (hnx.cellAt hBmW hBm).trans hcm
    by_cases hlt : k < K.length
    · have hsr := HS.out.keep hnx HV.out
      obtain ⟨gk, ok, ck, hvk, hgk, hck⟩ := hsr.rd.at (by omega)
      cases hvk
      have hcell := hck k _ (get_ints hlt)
      have HA2 := Lib.hid (HA.out.keep hnx hmb)
      have HM : Hid ((kaL K A).take (k + 1) = (kaL K A).take k ++ [(K[k], A K[k])]) := kaL_take K A hlt
      have HLT : Hid (((kaL K A).take k).length < K.length) := by show _ < _; rw [List.length_take, kaL_len]; omega
      have hkr : InR K[k] := HR.out _ (List.getElem_mem hlt)
      obtain ⟨x, hx⟩ : ∃ x, x = K[k] := ⟨_, rfl⟩
      rw [← hx] at hcell HM hkr
      clear hsr hck hgk hx
      gi_wp2_with fail
      refine ⟨trivial, fun _ => by omega, ?_⟩
      refine (callsIn_wide.2 (wasAsked_any HA2.out x hkr)).mono ?_
      rintro e w3 ⟨rfl, hb3⟩
      have hu4 : Upd (fun _ => False) wr w3 := Upd.of_below hb3
      have HJ := Lib.hid (abides_new hJ hJs hu4)
      have HU := Lib.hid (hnx.trans (hu4.mono (S' := S) (fun _ _ h => h.elim)))
      obtain ⟨fn, tmps, assign, body, hy, hR⟩ := hY _ (x, A x) w3 HJ.out HLT.out
      simp only [enc7] at hy
      clear hb3 hu4
      gi_wp2
      refine ⟨fun _ => by omega, ?_⟩
      refine hR.mono ?_
      rintro e W3 (⟨rfl, hJ3, hk3⟩ | ⟨rfl, hJx3⟩)
      · have HJ3 := Lib.hid hJ3
        have HU3 := Lib.hid (HU.out.trans hk3)
        clear hJ3 hk3 hR
        gi_wp2
        go_roundw
        case rel => exact ⟨k + 1, by omega, by simp, by rw [HM.out]; exact HJ3.out, HU3.out⟩
        case measure => simp [intOf]; omega
      · clear hR
        gi_wp2
        refine bodyPost_ret (results_none rfl _ _ _) rfl ?_
        exact ⟨⟨_, rfl⟩, .inr ⟨_, by rw [← HM.out]; exact List.take_prefix _ _, hJx3⟩⟩
    · obtain rfl : k = K.length := by omega
      have HT : Hid ((kaL K A).take K.length = kaL K A) := List.take_of_length_le (by rw [kaL_len]; exact Nat.le_refl _)
      gi_wp2
      go_end0
      exact ⟨⟨_, rfl⟩, .inl ⟨_, rfl, by rw [← HT.out]; exact hJs⟩⟩

set_option maxRecDepth 100000 in
set_option maxHeartbeats 2000000 in
theorem gl_in (n : Nat) (hn : 2 ≤ n) (S : Nat → Prop) (l Bs : Nat) (G : List Int) (v : Value)
    (hle : G.length ≤ 4096) (hv : ∀ g, v.ownBlock = some g → ¬ S g) (J Jx : List Int → World → Prop)
    (hY : ∀ pre (x : Int) W, J pre W → pre.length < G.length → YieldAt Fence.wide (n - 1) Try.prog l (encI x) W fun e W' =>
      (e = .returned (.bool true) ∧ J (pre ++ [x]) W' ∧ Upd S W W') ∨ (e = .returned (.bool false) ∧ Jx (pre ++ [x]) W'))
    (W : World) (hBs : W.cell? ⟨Bs, 0, none⟩ = some v) (hs : Sl W 3 1 v G.length (ints G)) (h0 : J [] W) :
    CallsIn Fence.wide n Try.prog 104 #[.func (.yield l) #[] #[], .pointer (some ⟨Bs, 0, none⟩)] W fun e W' => (∃ v, e = .returned v) ∧
      ((∃ ys, ys = G ∧ J ys W') ∨ (∃ pre, pre <+: G ∧ Jx pre W')) := by
  have HS := Lib.hid hs
  have HV := Lib.hid hv
  obtain ⟨ao, c, rfl⟩ := hs.rd.nil_iff
  clear hs hv
  refine callsIn_of_wp Try.func104 rfl trivial ?_ rfl
  simp only [Try.ntmps104, List.size_toArray, List.length_cons, List.length_nil, Nat.reduceAdd, Nat.reduceSub, Array.replicate_succ, Array.replicate_zero, List.push_toArray, List.append_toArray, List.nil_append, List.cons_append]
  gi_wp2
  gi_loopw [7] (fun i wr => ∃ k : Nat, k ≤ G.length ∧ i = .int .i64 k ∧ J (G.take k) wr ∧ Upd S W wr)
    (fun i _ => G.length - (intOf i).toNat)
  case atStart => exact ⟨0, Nat.zero_le _, rfl, h0, Upd.refl _ _⟩
  case round =>
    obtain ⟨k, hk, rfl, hJs, hnx⟩ := hrel
    by_cases hlt : k < G.length
    · have hsr := HS.out.keep hnx HV.out
      obtain ⟨gk, ok, ck, hvk, hgk, hck⟩ := hsr.rd.at (by omega)
      cases hvk
      have hcell := hck k _ (get_ints hlt)
      have HM : Hid (G.take (k + 1) = G.take k ++ [G[k]]) := List.take_succ_eq_append_getElem hlt
      have HLT : Hid ((G.take k).length < G.length) := by show _ < _; rw [List.length_take]; omega
      obtain ⟨x, hx⟩ : ∃ x, x = G[k] := ⟨_, rfl⟩
      rw [← hx] at hcell HM
      clear hsr hck hgk hx
      have HU := Lib.hid hnx
      obtain ⟨fn, tmps, assign, body, hy, hR⟩ := hY _ x wr hJs HLT.out
      simp only [encI] at hy
      gi_wp2
      refine ⟨fun _ => by omega, ?_⟩
      refine hR.mono ?_
      rintro e W3 (⟨rfl, hJ3, hk3⟩ | ⟨rfl, hJx3⟩)
      · have HJ3 := Lib.hid hJ3
        have HU3 := Lib.hid (HU.out.trans hk3)
        clear hJ3 hk3 hR
        gi_wp2
        go_roundw
        case rel => exact ⟨k + 1, by omega, by simp, by rw [HM.out]; exact HJ3.out, HU3.out⟩
        case measure => simp [intOf]; omega
      · clear hR
        gi_wp2
        refine bodyPost_ret (results_none rfl _ _ _) rfl ?_
        exact ⟨⟨_, rfl⟩, .inr ⟨_, by rw [← HM.out]; exact List.take_prefix _ _, hJx3⟩⟩
    · obtain rfl : k = G.length := by omega
      have HT : Hid (G.take G.length = G) := List.take_of_length_le (Nat.le_refl _)
      gi_wp2
      go_end0
      exact ⟨⟨_, rfl⟩, .inl ⟨_, rfl, by rw [← HT.out]; exact hJs⟩⟩

set_option maxRecDepth 100000 in
theorem ka_none (n : Nat) (S : Nat → Prop) (w : World) :
    SeqStopsK Fence.wide n Try.prog 92 #[] enc7 (Upd S) (fun ys => ys = []) (fun pre => pre <+: []) 0 w := fun l J Jx W _ _ _ _ h0 => by
  refine callsIn_of_wp Try.func92 rfl trivial ?_ rfl
  simp only [Try.ntmps92, List.size_toArray, List.length_cons, List.length_nil, Nat.reduceAdd, Nat.reduceSub, Array.replicate_succ, Array.replicate_zero, List.push_toArray, List.append_toArray, List.nil_append, List.cons_append]
  gi_wp2
  go_end0
  exact ⟨⟨_, rfl⟩, .inl ⟨_, rfl, h0⟩⟩
set_option maxRecDepth 100000 in
theorem gl_none (n : Nat) (S : Nat → Prop) (w : World) :
    SeqStopsK Fence.wide n Try.prog 96 #[] encI (Upd S) (fun ys => ys = []) (fun pre => pre <+: []) 0 w := fun l J Jx W _ _ _ _ h0 => by
  refine callsIn_of_wp Try.func96 rfl trivial ?_ rfl
  simp only [Try.ntmps96, List.size_toArray, List.length_cons, List.length_nil, Nat.reduceAdd, Nat.reduceSub, Array.replicate_succ, Array.replicate_zero, List.push_toArray, List.append_toArray, List.nil_append, List.cons_append]
  gi_wp2
  go_end0
  exact ⟨⟨_, rfl⟩, .inl ⟨_, rfl, h0⟩⟩

/-- What is asked of an iterator: it gives xs, whatever the body turns of the blocks from the heap's size on. -/
def GivesE {α : Type} (enc : α → Array Value) (w : World) (gf : Nat) (lb : Array Value) (xs : List α) : Prop :=
  (∀ args w, (callFunc gf args).run Try.prog w = .ok (.enter gf args) w) ∧
  ∀ (n : Nat), 2 ≤ n → ∀ (S : Nat → Prop), (∀ j, S j → w.heap.size ≤ j) → ∀ w2, Below w.heap.size w w2 →
    SeqStopsK Fence.wide n Try.prog gf lb enc (Upd S) (fun ys => ys = xs) (fun pre => pre <+: xs) xs.length w2
theorem GivesE.below {α : Type} {enc : α → Array Value} {w w' : World} {gf : Nat} {lb : Array Value} {xs : List α} (h : GivesE enc w gf lb xs) (hb : Below w.heap.size w w') : GivesE enc w' gf lb xs :=
  ⟨h.1, fun n hn S hS w2 hw2 => h.2 n hn S (fun j hj => Nat.le_trans hb.size (hS j hj)) w2 (hb.trans (hw2.mono hb.size))⟩
end Go.Proofs.Ytmgcekpfnkcmjaa
