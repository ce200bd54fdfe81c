/- The index: Drop, Clean, At; Get, Put, Drop, Clean of whatever block. The index: At, Drop. The index: Copy. The iterator over the blocks of a span: its contract. -/
import Derived.Test.YtnadilfobmgebaaGreatDoorG23
import Derived.Shelf.SlMaps.Clone
import Derived.RangeFuncNested
import Derived.RangeFuncBound
import Derived.RangeFuncCalls
import Derived.RangeFuncLeaves
import Derived.RangeFuncBox
import Derived.Shelf.Abstract
import Derived.WalkKit
import Derived.OwnWalkIn
import Derived.TacticsInMore
import Derived.LoopNIn
import Derived.LoopIn
import Derived.BigRegionIn
import Derived.Shelf.RegionOpen
import Derived.Maps.AppendAt
namespace Go.Proofs.YtnadilfobmgebaaGreatDoor
open Go Go.RowKit
theorem infoPl : (Tryz.prog.info? 108).map (fun i => (i.zero, i.size, i.bytes)) = some (some (.agg #[.int .i64 0, .bool false]), 2, 16) := by kernel_rfl
set_option maxRecDepth 100000 in
theorem cloneP_any {w : World} {v : Value} {ps : List (Int × Bool)} (h : Rd w 2 v ps.length (plC ps)) (hle : ps.length ≤ 4096) (hpos : 0 < ps.length) :
    Calls Tryz.prog 195 #[v] w fun e w' => ∃ v', e = .returned v' ∧ Sl w' 108 2 v' ps.length (plC ps) ∧ From w.heap.size v' ∧ Below w.heap.size w w' := by
  obtain ⟨i0, hi, hz0, hz1, hz2⟩ := info_parts infoPl
  have H := Lib.hid h
  obtain ⟨hl, hm, ao, c, rfl, h0, _⟩ := h
  have q34 := fun (w : World) (a : Option Addr) (n c : Nat) => Lib.run_eql_slice_nil (P := Tryz.prog) w 227 108 a n c 0 0 Tryz.underlying227
  cases ao with
  | none =>
    have hn := h0 rfl
    omega
  | some a =>
    clear h0 hl
    have hs0 : Sl (w.alloc (.cells #[] 108)) 108 2 (.slice (some ⟨w.heap.size, 0, none⟩) 0 0) 0 [] :=
      ⟨by simp, .inr ⟨w.heap.size, 0, 0, #[], rfl, heap_alloc_last _ _ rfl, by simp, by simp [maxLen], by simp, by simp⟩⟩
    have HR : Hid (Rd (w.alloc (.cells #[] 108)) 2 (.slice (some a) ps.length c) ps.length (plC ps)) := H.out.keep ((Upd.refl (fun _ => False) _).alloc _) (fun _ _ h => h)
    have hone : ∀ u ∈ plC ps, u.oneCell' = true := by intro u hu; simp only [plC, List.mem_flatMap] at hu; obtain ⟨p, _, hp⟩ := hu; simp at hp; rcases hp with rfl | rfl <;> simp [Value.oneCell']
    go_enter Tryz.func195, Tryz.ntmps195
    go_wp2_with (at_builtin; refine wpList_append_sl rfl _ _ 227 rfl i0 (.agg #[.int .i64 0, .bool false]) 16 Tryz.underlying227 hi hz0 hz1 hz2 rfl (by decide) rfl hs0 _ ps.length (plC ps) rfl HR.out hone (by unfold maxLen; omega) (by omega) ?_)
    intro v' w2 hs2 hu2 hb2
    go_wp2
    go_ret
    refine ⟨_, rfl, by simpa using hs2, ?_, ?_⟩
    · exact hb2.ge (by simp) (by intro g hg; simp [Value.ownBlock] at hg; omega)
    · refine below_upd ((Below.refl _ _).alloc (Nat.le_refl _) _) hu2 (Nat.le_refl _) (by intro k hk; simp [ownS, Value.ownBlock] at hk; omega)
end Go.Proofs.YtnadilfobmgebaaGreatDoor
namespace Go.Proofs.YtnadilfobmgebaaGreatDoor
open Go Go.RowKit Go.Shelf
attribute [local go_sem] Oper.semAt_some
abbrev It9 := Nat × (Int × Bool)
abbrev enc9 (x : It9) : Array Value := #[.int .i64 (x.1 : Int), placeV x.2.1 x.2.2]
def visAt (qs : List (Int × Bool)) (fr k : Nat) : List It9 := if qs[k]?.getD (-1, false) = (-1, false) then [] else [(fr + k, qs[k]?.getD (-1, false))]
def visTo (qs : List (Int × Bool)) (fr : Nat) : Nat → List It9
  | 0 => []
  | k + 1 => visTo qs fr k ++ visAt qs fr k
abbrev vis (qs : List (Int × Bool)) (fr : Nat) : List It9 := visTo qs fr qs.length
theorem visTo_hit {qs : List (Int × Bool)} {fr k : Nat} (hk : k < qs.length) (h : qs[k] ≠ (-1, false)) : visTo qs fr (k + 1) = visTo qs fr k ++ [(fr + k, qs[k])] := by
  have e : qs[k]?.getD (-1, false) = qs[k] := by simp [hk]
  simp [visTo, visAt, hk, h]
theorem visTo_miss {qs : List (Int × Bool)} {fr k : Nat} (hk : k < qs.length) (h : qs[k] = (-1, false)) : visTo qs fr (k + 1) = visTo qs fr k := by
  simp [visTo, visAt, hk, h]
theorem visTo_prefix (qs : List (Int × Bool)) (fr : Nat) {k m : Nat} (h : k ≤ m) : visTo qs fr k <+: visTo qs fr m := by
  induction m with
  | zero => obtain rfl : k = 0 := by omega
            exact List.prefix_rfl
  | succ m ih =>
    by_cases hk : k = m + 1
    · subst hk; exact List.prefix_rfl
    · exact (ih (by omega)).trans (List.prefix_append _ _)
theorem visTo_strict (qs : List (Int × Bool)) (fr : Nat) {k : Nat} (hk : k < qs.length) (hb : qs[k] ≠ (-1, false)) : (visTo qs fr k).length < (visTo qs fr qs.length).length := by
  have h1 := (visTo_prefix qs fr (show k + 1 ≤ qs.length by omega)).length_le
  rw [visTo_hit hk hb] at h1
  simp at h1; omega
theorem abides_new {β : Type} {B : Nat} {J : β → World → Prop} (hJ : AbidesFrom B J) {s : β} {W W' : World} (h : J s W) (hu : Upd (fun _ => False) W W') : J s W' :=
  hJ s W W' none h ⟨hu.os, hu.tape, hu.output, hu.size, fun k hk _ => hu.block k hk (fun h => h)⟩ (fun r e => by cases e)
set_option maxRecDepth 100000 in
set_option maxHeartbeats 2000000 in
theorem it_in (n : Nat) (hn : 2 ≤ n) (S : Nat → Prop) (l Bs Bp b off cap : Nat) (qs : List (Int × Bool)) (fr : Nat)
    (hle : qs.length ≤ 4096) (hfr : fr ≤ 4096) (hgood : ∀ k (h : k < qs.length), qs[k] = (-1, false) ∨ 0 ≤ qs[k].1) (hb : ¬ S b) (hBp : ¬ S Bp) (J Jx : List It9 → World → Prop) (B0 : Nat) (hJ : AbidesFrom B0 J)
    (hY : ∀ pre (x : It9) W, J pre W → pre.length < (vis qs fr).length → YieldAt Fence.wide (n - 1) Tryz.prog l (enc9 x) W fun e W' =>
      (e = .returned (.bool true) ∧ J (pre ++ [x]) W' ∧ Upd S W W') ∨ (e = .returned (.bool false) ∧ Jx (pre ++ [x]) W'))
    (W : World) (hbW : b < W.heap.size) (hBpW : Bp < W.heap.size) (hBs : W.cell? ⟨Bs, 0, none⟩ = some (.slice (some ⟨b, off, none⟩) qs.length cap)) (hcp : W.cell? ⟨Bp, 0, none⟩ = some (.int .i64 fr))
    (hc : ∀ j (h : j < qs.length), W.cell? ⟨b, off + j * 2, none⟩ = some (.int .i64 qs[j].1) ∧ W.cell? ⟨b, off + j * 2 + 1, none⟩ = some (.bool qs[j].2)) (h0 : J [] W) :
    CallsIn Fence.wide n Tryz.prog 196 #[.func (.yield l) #[] #[], .pointer (some ⟨Bs, 0, none⟩), .pointer (some ⟨Bp, 0, none⟩)] W fun e W' => (∃ v, e = .returned v) ∧
      ((∃ ys, ys = vis qs fr ∧ J ys W') ∨ (∃ pre, pre <+: vis qs fr ∧ Jx pre W')) := by
  have hmix : Tryz.prog.follows .mixedOrders = true := by kernel_rfl
  refine callsIn_of_wp Tryz.func196 rfl trivial ?_ rfl
  simp only [Tryz.ntmps196, List.size_toArray, List.length_cons, List.length_nil, Nat.reduceAdd, Nat.reduceSub, Array.replicate_succ, Array.replicate_zero, List.push_toArray, List.append_toArray, List.nil_append, List.cons_append]
  gi_wp2
  refine wpIn_wide.2 (wp_scope_straight (wpIn_wide (n := n).1 (wpIn_seq (wpIn_label ?_))))
  gi_wp2
  gi_loopw [8] (fun i wr => ∃ k : Nat, k ≤ qs.length ∧ i = .int .i64 k ∧ J (visTo qs fr k) wr ∧ Upd S W wr)
    (fun i _ => qs.length - (intOf i).toNat)
  case atStart => exact ⟨0, Nat.zero_le _, rfl, h0, Upd.refl _ _⟩
  case round =>
    obtain ⟨k, hk, rfl, hJs, hnx⟩ := hrel
    have hct' : wr.cell? ⟨Bp, 0, none⟩ = some (.int .i64 fr) := (hnx.cellAt hBpW hBp).trans hcp
    by_cases hlt : k < qs.length
    · have hc0 : wr.cell? ⟨b, off + k * 2, none⟩ = some (.int .i64 qs[k].1) := (hnx.cellAt hbW hb).trans (hc k hlt).1
      have hc1 : wr.cell? ⟨b, off + k * 2 + 1, none⟩ = some (.bool qs[k].2) := (hnx.cellAt hbW hb).trans (hc k hlt).2
      by_cases hq : qs[k] = (-1, false)
      · have HM : Hid (visTo qs fr (k + 1) = visTo qs fr k) := visTo_miss hlt hq
        rw [hq] at hc0 hc1
        clear hq
        have HP0 : Hid ((wr.alloc (.cells #[.int .i64 (-1), .bool false] 108)).drew.cell? ⟨wr.heap.size, 0, none⟩ = some (.int .i64 (-1))) := cell_of_block (heap_alloc_last wr _ rfl) 0
        have HP1 : Hid ((wr.alloc (.cells #[.int .i64 (-1), .bool false] 108)).drew.cell? ⟨wr.heap.size, 1, none⟩ = some (.bool false)) := cell_of_block (heap_alloc_last wr _ rfl) 1
        gi_wp2
        gi_region_with_o (first | refine ⟨trivial, fun _ => by omega, ?_⟩ | skip; gi_at_call 148; refine (callsIn_wide.2 (nowhere_ok _)).mono ?_; rintro e w3 ⟨rfl, hu3, hz3⟩; have k0 := (hu3.cellAt (by simp) (fun h => h)).trans HP0.out; have k1 := (hu3.cellAt (by simp) (fun h => h)).trans HP1.out)
        all_goals
          have hu4 : Upd (fun _ => False) wr w3 := ((Upd.refl (fun _ => False) wr).alloc _).trans hu3.undrew
          have HJ := Lib.hid (abides_new hJ hJs hu4)
          have HU := Lib.hid (hnx.trans (hu4.mono (S' := S) (fun _ _ h => h.elim)))
          clear hu3 hz3 k0 k1 hu4
          gi_wp2
          go_roundw
          case rel => exact ⟨k + 1, by omega, by simp, by rw [HM.out]; exact HJ.out, HU.out⟩
          case measure => simp [intOf]; omega
      · have hs : 0 ≤ qs[k].1 := (hgood k hlt).resolve_left hq
        have hsb : (qs[k].1 == -1) = false := by simp; omega
        have HM : Hid (visTo qs fr (k + 1) = visTo qs fr k ++ [(fr + k, qs[k])]) := visTo_hit hlt hq
        have HLT : Hid ((visTo qs fr k).length < (visTo qs fr qs.length).length) := visTo_strict qs fr hlt hq
        clear hq
        have HP0 : Hid ((wr.alloc (.cells #[.int .i64 qs[k].1, .bool qs[k].2] 108)).drew.cell? ⟨wr.heap.size, 0, none⟩ = some (.int .i64 qs[k].1)) := cell_of_block (heap_alloc_last wr _ rfl) 0
        have HP1 : Hid ((wr.alloc (.cells #[.int .i64 qs[k].1, .bool qs[k].2] 108)).drew.cell? ⟨wr.heap.size, 1, none⟩ = some (.bool qs[k].2)) := cell_of_block (heap_alloc_last wr _ rfl) 1
        gi_wp2
        gi_region_with_o (first | refine ⟨trivial, fun _ => by omega, ?_⟩ | skip; gi_at_call 148; refine (callsIn_wide.2 (nowhere_ok _)).mono ?_; rintro e w3 ⟨rfl, hu3, hz3⟩; have k0 := (hu3.cellAt (by simp) (fun h => h)).trans HP0.out; have k1 := (hu3.cellAt (by simp) (fun h => h)).trans HP1.out)
        all_goals
          have hu4 : Upd (fun _ => False) wr w3 := ((Upd.refl (fun _ => False) wr).alloc _).trans hu3.undrew
          have HJ := Lib.hid (abides_new hJ hJs hu4)
          have hnx4 := hnx.trans (hu4.mono (S' := S) (fun _ _ h => h.elim))
          have c4 : w3.cell? ⟨Bp, 0, none⟩ = some (.int .i64 fr) := (hnx4.cellAt hBpW hBp).trans hcp
          have HU := Lib.hid hnx4
          obtain ⟨fn, tmps, assign, body, hy, hR⟩ := hY _ (fr + k, qs[k]) w3 HJ.out HLT.out
          simp only [enc9, Int.natCast_add] at hy
          clear hu3 hz3 hu4 hnx4
          gi_wp2
          refine ⟨fun _ => by omega, ?_⟩
          refine hR.mono ?_
          rintro e W3 (⟨rfl, hJ3, hk3⟩ | ⟨rfl, hJx3⟩)
          · have HJ3 := Lib.hid hJ3
            have HU3 := Lib.hid (HU.out.trans (hk3.mono (fun _ _ h => h)))
            clear hJ3 hk3 hR
            gi_wp2
            go_roundw
            case rel => exact ⟨k + 1, by omega, by simp, by rw [HM.out]; exact HJ3.out, HU3.out⟩
            case measure => simp [intOf]; omega
          · clear hR
            gi_wp2
            rw [Exit.noGoto_ret]
            refine bodyPost_ret (results_none rfl _ _ _) rfl ?_
            exact ⟨⟨_, rfl⟩, .inr ⟨_, by rw [← HM.out]; exact visTo_prefix qs fr (by omega), hJx3⟩⟩
    · obtain rfl : k = qs.length := by omega
      gi_wp2
      rw [Exit.noGoto_normal]
      go_end0
      exact ⟨⟨_, rfl⟩, .inl ⟨_, rfl, hJs⟩⟩
theorem it_stops (n : Nat) (hn : 2 ≤ n) (S : Nat → Prop) (Bs Bp b off cap : Nat) (qs : List (Int × Bool)) (fr : Nat) (w : World) (hle : qs.length ≤ 4096) (hfr : fr ≤ 4096) (hgood : ∀ k (h : k < qs.length), qs[k] = (-1, false) ∨ 0 ≤ qs[k].1)
    (hb : b < w.heap.size) (hBp : Bp < w.heap.size) (hBs : Bs < w.heap.size) (hbS : ¬ S b) (hBpS : ¬ S Bp)
    (hcs : w.cell? ⟨Bs, 0, none⟩ = some (.slice (some ⟨b, off, none⟩) qs.length cap)) (hcp : w.cell? ⟨Bp, 0, none⟩ = some (.int .i64 fr))
    (hc : ∀ j (h : j < qs.length), w.cell? ⟨b, off + j * 2, none⟩ = some (.int .i64 qs[j].1) ∧ w.cell? ⟨b, off + j * 2 + 1, none⟩ = some (.bool qs[j].2)) :
    SeqStopsK Fence.wide n Tryz.prog 196 #[.pointer (some ⟨Bs, 0, none⟩), .pointer (some ⟨Bp, 0, none⟩)] enc9 (Upd S) (fun ys => ys = vis qs fr) (fun pre => pre <+: vis qs fr) (vis qs fr).length w := fun l J Jx W hW hJ _ hY h0 =>
  it_in n hn S l Bs Bp b off cap qs fr hle hfr hgood hbS hBpS J Jx W.heap.size hJ hY W (Nat.lt_of_lt_of_le hb hW.size) (Nat.lt_of_lt_of_le hBp hW.size) ((hW.cell (p := ⟨Bs, 0, none⟩) hBs).trans hcs) ((hW.cell (p := ⟨Bp, 0, none⟩) hBp).trans hcp)
    (fun j hj => ⟨(hW.cell (p := ⟨b, off + j * 2, none⟩) hb).trans (hc j hj).1, (hW.cell (p := ⟨b, off + j * 2 + 1, none⟩) hb).trans (hc j hj).2⟩) h0
end Go.Proofs.YtnadilfobmgebaaGreatDoor
