/- A cache: put. A cache: what bounds its numbers; room, whatever there is. The iterators over a clock's keys, and over its ghosts: their contracts. All, Ghosts: which iterators they give. -/
import Derived.Test.YtnadilfobmgebaaGreatDoorH21
import Derived.Test.YtnadilfobmgebaaGreatDoorH20
import Derived.RangeFuncNested
import Derived.RangeFuncBound
import Derived.RangeFuncCalls
import Derived.RangeFuncLeaves
import Derived.RangeFuncBox
import Derived.Shelf.Abstract
import Derived.WalkKit
import Derived.OwnWalkIn
import Derived.TacticsInMore
import Derived.LoopNIn
import Derived.LoopIn
import Derived.BigRegionIn
import Derived.Shelf.RegionOpen
import Derived.Maps.AppendAt
import Derived.Test.YtnadilfobmgebaaGreatDoorH14
namespace Go.Proofs.YtnadilfobmgebaaGreatDoor
open Go Go.RowKit
set_option maxRecDepth 100000 in
theorem run_eql_place (w : World) (a c : Int) (b d : Bool) : (binOp .eql 108 (.agg #[.int .i64 a, .bool b]) (.agg #[.int .i64 c, .bool d])).run Tryz.prog w = .ok (.bool (a == c && b == d)) w := by
  simp only [binOp]
  simp [show Op.equal 108 (.agg #[.int .i64 a, .bool b]) (.agg #[.int .i64 c, .bool d]) = Op.equalIn (9998 + 1 + 1) 108 (.agg #[.int .i64 a, .bool b]) (.agg #[.int .i64 c, .bool d]) from rfl, run_eqIn_place w 9998 a c b d]
def CaS.given (n : CaN) (a : CaS) (k : Int) (s sum : Nat) (d : Bool) : CaS := { a.noted n 0 k s d sum with iN := a.iN + 1, ps := putL a.ps n.sl k s d, st := turnList a.st s 2, mN := a.mN + 1, sums := upd1 a.sums k (some sum) }
def CaS.putted (n : CaN) (a : CaS) (k : Int) (s sum : Nat) (d : Bool) : CaS × Int :=
  if (putV a.ps n.sl k s).1 = -1 ∧ (putV a.ps n.sl k s).2 = false then ({ a.given n k s sum d with kN := a.kN + 1, K := addK n.sl a.K k, A := addA n.sl a.K a.A a.H k, H := addG n.sl a.K a.H k }, addC n.sl a.K k)
  else ({ a.given n k s sum d with st := turnList (turnList a.st s 2) (putV a.ps n.sl k s).1 3, kN := a.kN + 1, A := agA a.A a.K k }, touchC a.K k)
set_option maxRecDepth 100000 in
set_option maxHeartbeats 1000000 in
theorem ca_cput {own : Nat → Nat} {w : World} {c : Nat} {n : CaN} {p : CaP} {a : CaS} (h : CaAt own w c n p a) (k : Int) (s sum : Nat) (d : Bool) (hroom : a.next ≤ a.cov + n.jo) (hmx : a.next ≤ 1099511627776) (hmay : mayR (jaddX a.next n.jo 0 k s d sum) = true)
    (hput : putC a.ps n.sl k s = 0) (hN : a.iN < maxLen) (hsum : sum < 9223372036854775808) (hM : a.mN < maxLen) (hkN : a.kN < maxLen) :
    Calls Tryz.prog 212 #[ptr c, .int .i64 k, .int .i64 (s : Int), .int .i64 (sum : Int), .bool d] w (CaOut own w c n p (a.putted n k s sum d).1 (.int .i64 (a.putted n k s sum d).2)) := by
  obtain ⟨w1, hw1⟩ : ∃ w1, w1 = w.alloc (.cells (recC 0 0 0 k s d sum).toArray 225) := ⟨_, rfl⟩
  have hu1 : Upd (fun _ => False) w w1 := by rw [hw1]; exact (Upd.refl _ w).alloc _
  have hg1 : w1.heap[w.heap.size]? = some (.cells (recC 0 0 0 k s d sum).toArray 225 (0, 0)) := by rw [hw1]; exact heap_alloc_last w _ rfl
  obtain ⟨m, hm⟩ : ∃ m, m = w.heap.size := ⟨_, rfl⟩
  have hm0 : own m = 0 := h.far _ (by omega)
  rw [← hm] at hg1
  have h1 := h.new hu1
  obtain ⟨-, -, -, d3, -, -, -, -, -⟩ := h1.cells
  have r1 := range_of_block hg1
  have hud := ((Upd.refl (fun _ => False) w1).drew)
  have HJ := Lib.hid (ca_jadd (h1.new hud) hroom hmx 0 0 0 k s d sum hmay)
  have H := Lib.hid (And.intro hm0 (And.intro ((h.didNew hu1).trans (h1.didNew hud)) (And.intro hput (And.intro hN (And.intro hsum hM)))))
  have HM := Lib.hid hm
  have HW1 := Lib.hid hw1
  have hk : 0 ≤ k ∧ k < 4096 := by
    have e1 := h.pl
    have e2 := h.ok.b2
    unfold putC at hput
    split at hput
    · cases hput
    · omega
  have HK := Lib.hid hk
  replace hkN := Lib.hid hkN
  have hut := Tryz.underlying225
  have hsi := infoThR
  clear hk h hroom hmx hmay hput hN hsum hM hu1 hg1 h1 hm0 hm hw1 hud
  go_enter Tryz.func212, Tryz.ntmps212
  go_upto_region 2 with fail
  rw [← HM.out, show w.alloc (.cells #[.int .i64 0, .int .i64 0, .int .i64 0, .int .i64 k, .int .i64 (s : Int), .bool d, .int .i64 (sum : Int)] 225) = w1 from HW1.out.symm]
  refine wp_region_held_drew (S := fun W => W.cell? ⟨c, 17, none⟩ = some (ptr p.jr) ∧ W.rangeAt m 0 (recC 0 0 0 k s d sum)) (by kernel_rfl) (by (simp only [World.cell?_drew, World.rangeAt_drew]); exact ⟨d3, r1⟩) (fun hHeld => ?_)
  refine Wl.i [0, 1, 2, 3] ?_; iterate 4 refine Wl.t hHeld ?_
  refine Wl.o ?_
  refine Wl.l 4 (fun w h => h.2) hut hsi hHeld ?_
  refine Wl.r 5 (fun K hK => ?_)
  go_simp
  skip
  refine HJ.out.mono ?_
  rintro e w2 ⟨rfl, own2, h2, hd2⟩
  obtain ⟨-, -, -, i3, i4, -, -, -, -⟩ := h2.cells
  have r2 := hd2.upd.range (show w1.drew.rangeAt m 0 (recC 0 0 0 k s d sum) by rw [World.rangeAt_drew]; exact r1) (fun h => h.1 H.out.1)
  have HP := Lib.hid (ca_put h2 k s d H.out.2.2.2.1)
  have H2 := Lib.hid (H.out.2.1.trans hd2)
  clear h2 hd2
  refine hK.out _ _ (⟨i3, r2⟩) (fun hH1 => ?_)
  clear hK K
  refine Wl.i [6, 7, 8] ?_; iterate 3 refine Wl.t hH1 ?_
  refine Wl.o ?_
  refine Wl.r 9 (fun K hK => ?_)
  go_simp
  refine hK.out _ _ (hH1) (fun hH2 => ?_)
  clear hK K
  refine Wl.r 10 (fun K hK => ?_)
  go_simp
  refine hK.out _ _ (hH2) (fun hH3 => ?_)
  clear hK K
  refine Wl.d ?_
  have hp := H.out.2.2.1
  clear hHeld hH1 hH2 hH3 i3 r1 r2 d3 HJ hut hsi
  go_wp2_with fail
  refine HP.out.mono ?_
  rw [hp]
  rintro e w3 ⟨rfl, own3, h3, hd3⟩
  obtain ⟨ps, hps⟩ : ∃ ps, ps = putV a.ps n.sl k s := ⟨_, rfl⟩
  rw [← hps]
  obtain ⟨os, od⟩ := ps
  have hua : Upd (fun _ => False) w3 (w3.alloc (.cells #[.int .i64 os, .bool od] 108)) := (Upd.refl _ _).alloc _
  have h3a := h3.new hua
  have HT := Lib.hid (ca_turn h3a s 2)
  obtain ⟨-, -, -, -, -, j5, -, -, -⟩ := h3a.cells
  have H3 := Lib.hid (And.intro ((H2.out.trans hd3).trans (h3.didNew hua)) (h3.far _ (Nat.le_refl _)))
  clear h3 hd3 hua h3a HP i4
  go_wp2_with fail
  refine HT.out.mono ?_
  rintro e w4 ⟨rfl, own4, h4, hd4⟩
  obtain ⟨w5, own5, hrun, h5, hd5⟩ := ca_store h4 (x := k) (by have := HK.out; omega) (by have := HK.out; omega) sum H.out.2.2.2.2.1 H.out.2.2.2.2.2
  obtain ⟨-, -, -, -, -, -, -, -, f8⟩ := h4.cells
  obtain ⟨-, -, -, -, -, g5, -, g7, -⟩ := h5.cells
  have rB := (hd4.trans hd5).upd.range (range_of_block (heap_alloc_last w3 (.cells #[.int .i64 os, .bool od] 108) rfl)) (fun h => h.1 H3.out.2)
  have H5 := Lib.hid (And.intro h5 (H3.out.1.trans (hd4.trans hd5)))
  clear h4 hd4 h5 hd5 HT j5
  replace H5 : Hid (CaAt own5 w5 c n p (a.given n k s sum d) ∧ Did own own5 w w5) := H5
  have hR : a.putted n k s sum d = a.putted n k s sum d := rfl
  conv at hR => rhs; unfold CaS.putted
  rw [← hps] at hR
  simp only at hR
  by_cases ho : os = -1 ∧ od = false
  · rw [if_pos ho] at hR
    have HR := Lib.hid hR
    clear hR
    obtain ⟨rfl, rfl⟩ := ho
    have HA := Lib.hid (ca_kadd H5.out.1 k (by have := HK.out; unfold InR; omega) hkN.out)
    go_wp2_with (first
      | (refine wpList_load_mid rfl _ _ rfl _ _ rfl _ _ rB Tryz.underlying108 rfl (by kernel_rfl) ?_)
      | fail)
    refine HA.out.mono ?_
    rintro e w6 ⟨rfl, own6, h6, hd6⟩
    have H6 := Lib.hid (And.intro h6 (H5.out.2.trans hd6))
    clear h6 hd6 HA g5 g7 f8 hrun rB
    go_wp2
    go_ret
    rw [HR.out]
    exact ⟨rfl, own6, H6.out.1, H6.out.2⟩
  · rw [if_neg ho] at hR
    have HR := Lib.hid hR
    clear hR
    have hq : (os == -1 && od == false) = false := by
      rw [Bool.and_eq_false_iff]
      by_cases h1 : os = -1
      · right; simpa using fun h2 => ho ⟨h1, h2⟩
      · left; simpa using h1
    have hel : ∀ W : World, (binOp .eql 108 (.agg #[.int .i64 os, .bool od]) (.agg #[.int .i64 (-1), .bool false])).run Tryz.prog W = .ok (.bool false) W := by
      intro W; rw [run_eql_place, hq]
    have cB : w5.cell? ⟨w3.heap.size, 0, none⟩ = some (.int .i64 os) := rB 0 _ rfl
    clear hq ho
    go_wp2_with (first
      | (refine wpList_load_mid rfl _ _ rfl _ _ rfl _ _ rB Tryz.underlying108 rfl (by kernel_rfl) ?_)
      | fail)
    clear rB hel hrun f8
    have HT2 := Lib.hid (ca_turn (H5.out.1.new ((Upd.refl (fun _ => False) w5).drew)) os 3)
    replace H5 := Lib.hid H5.out.2.drew
    go_still_tail 6, (by kernel_rfl)
    change wpList _ _ _ _ _ w5.drew
    generalize w5.drew = w5d at *
    go_wp2_with fail
    refine HT2.out.mono ?_
    rintro e w6 ⟨rfl, own6, h6, hd6⟩
    obtain ⟨-, -, -, -, -, -, -, k7, -⟩ := h6.cells
    have HC := Lib.hid (ca_ktouch h6 k hkN.out)
    have H6 := Lib.hid (H5.out.trans hd6)
    clear h6 hd6 HT2 g5 g7 cB
    go_wp2_with fail
    refine HC.out.mono ?_
    rintro e w7 ⟨rfl, own7, h7, hd7⟩
    have H7 := Lib.hid (And.intro h7 (H6.out.trans hd7))
    clear h7 hd7 HC k7
    go_wp2
    go_ret
    rw [HR.out]
    exact ⟨rfl, own7, H7.out.1, H7.out.2⟩
theorem CaOut.from {own0 own : Nat → Nat} {w0 w : World} {c : Nat} {n : CaN} {p : CaP} {a : CaS} {v : Value} {f : FuncId} {args : Array Value} (h : Did own0 own w0 w) (hc : Calls Tryz.prog f args w (CaOut own w c n p a v)) : Calls Tryz.prog f args w (CaOut own0 w0 c n p a v) :=
  hc.mono fun _ _ ⟨he, own', h', hd⟩ => ⟨he, own', h', h.trans hd⟩
structure CaS.Fit (a : CaS) (N : Nat) : Prop where
  sm : ∀ k v, a.sums k = some v → v ≤ 4294967295
  w1 : ∀ q ∈ a.W, 1 ≤ q.1
  nx : a.next ≤ N
  iN : a.iN ≤ N
  kN : a.kN ≤ N
  mN : a.mN ≤ N
  dO : a.dO.length ≤ N
  bO : a.bO.length ≤ N
theorem CaS.Fit.mono {a : CaS} {N M : Nat} (h : a.Fit N) (hM : N ≤ M) : a.Fit M :=
  ⟨h.sm, h.w1, Nat.le_trans h.nx hM, Nat.le_trans h.iN hM, Nat.le_trans h.kN hM, Nat.le_trans h.mN hM, Nat.le_trans h.dO hM, Nat.le_trans h.bO hM⟩
theorem CaS.Fit.fb {a : CaS} {N : Nat} (h : a.Fit N) : a.fb.Fit N := { h with bO := Nat.le_trans (flushR_O _ _ _) h.bO }
theorem CaS.Fit.fd {a : CaS} {N : Nat} (h : a.Fit N) : a.fd.Fit N := { h with dO := Nat.le_trans (flushR_O _ _ _) h.dO }
theorem saveR_O (F : List Bk) (O : List (Nat × Bk)) (P : List Int) (L : List (Nat × Bk)) : (saveR F O P L).O.length ≤ O.length + L.length := by
  have h := wrsR_O F L O P
  unfold saveR
  split
  · exact Nat.le_trans (flushR_O _ _ _) h
  · exact h
theorem CaS.svR_O (n : CaN) (a : CaS) : (a.svR n).O.length ≤ a.dO.length + n.pa := by
  have := saveR_O a.dF a.dO a.dP (ckO (1 + (1 - a.which) * n.pa) n.pa (pagesB (a.next - 1) (a.ents n)))
  rwa [ckO_len] at this
theorem CaS.Fit.ckpt {n : CaN} {a : CaS} {N : Nat} (h : a.Fit N) : (a.ckpt n).1.Fit (N + n.pa) := by
  have h1 := h.fb
  have h2 := h1.fd
  have h3 := a.fb.fd.svR_O n
  have h4 := h2.dO
  unfold CaS.ckpt
  split
  · exact h1.mono (Nat.le_add_right _ _)
  split
  · exact h2.mono (Nat.le_add_right _ _)
  split
  · exact { h2.mono (Nat.le_add_right N n.pa) with dO := by show (a.fb.fd.svR n).O.length ≤ _; omega }
  · exact { h2.mono (Nat.le_add_right N n.pa) with dO := (by show (a.fb.fd.svR n).O.length ≤ _; omega), w1 := fun q hq => by cases hq }
def CaS.roomed (n : CaN) (a : CaS) : CaS × Int := if a.next + 1 ≤ a.cov + n.jo then (a, 0) else a.ckpt n
theorem CaS.Fit.roomed {n : CaN} {a : CaS} {N : Nat} (h : a.Fit N) : (a.roomed n).1.Fit (N + n.pa) := by
  unfold CaS.roomed
  split
  · exact h.mono (Nat.le_add_right _ _)
  · exact h.ckpt
section
variable {own : Nat → Nat} {w w' : World} {c : Nat} {n : CaN} {p : CaP} {a : CaS} {N : Nat}
set_option maxRecDepth 100000 in
theorem ca_room (h : CaAt own w c n p a) (hf : a.Fit N) (hN : N ≤ 50000) :
    Calls Tryz.prog 145 #[ptr c] w (CaOut own w c n p (a.roomed n).1 (.int .i64 (a.roomed n).2)) := by
  by_cases hr : a.next + 1 ≤ a.cov + n.jo
  · unfold CaS.roomed
    rw [if_pos hr]
    exact ca_room_yes h hr
  have HB := Lib.hid (ca_jroom h)
  obtain ⟨-, -, -, d3, -, -, -, -, -⟩ := h.cells
  have q0 : decide ((n.jo : Int) - ((a.next : Int) - 1 - (a.cov : Int)) ≥ 2) = false := by simp; omega
  have q1 : ¬ (2 : Int) ≤ (n.jo : Int) - ((a.next : Int) - 1 - (a.cov : Int)) := by omega
  have HF := Lib.hid hf
  unfold CaS.roomed
  rw [if_neg hr]
  clear h hr hf
  go_enter Tryz.func145, Tryz.ntmps145
  go_wp2_with fail
  refine HB.out.mono ?_
  rintro e w1 ⟨rfl, own1, h1, hd1⟩
  have HC := Lib.hid (CaOut.from hd1 (ca_ckpt h1 HF.out.sm (by have := HF.out.dO; omega)))
  clear h1 hd1 HB d3
  generalize (n.jo : Int) - ((a.next : Int) - 1 - (a.cov : Int)) = r at *
  go_wp2_with fail
  refine HC.out.mono ?_
  rintro e w2 ⟨rfl, H2⟩
  replace H2 := Lib.hid H2
  go_wp2
  go_ret
  exact ⟨rfl, H2.out⟩
end
theorem mayR_put {next jo s sum : Nat} {k : Int} (d : Bool) (h1 : 1 ≤ next) (h2 : next ≤ 1099511627776) (_hjo : 1 ≤ jo) (hk : 0 ≤ k ∧ k < 4096) (hs : s < 1024) (hsum : sum ≤ 4294967295) : mayR (jaddX next jo 0 k s d sum) = true := by
  have hl : (next - 1) / jo ≤ next - 1 := Nat.div_le_self _ _
  unfold jaddX
  generalize (next - 1) / jo = lp at *
  cases d
  all_goals simp [mayR, withinB, bndR, recX, inB, bitN] <;> omega
theorem mayR_drop {next jo : Nat} {k : Int} (h1 : 1 ≤ next) (h2 : next ≤ 1099511627776) (_hjo : 1 ≤ jo) (hk : 0 ≤ k ∧ k < 4096) : mayR (jaddX next jo 1 k 0 false 0) = true := by
  have hl : (next - 1) / jo ≤ next - 1 := Nat.div_le_self _ _
  unfold jaddX
  generalize (next - 1) / jo = lp at *
  simp [mayR, withinB, bndR, recX, inB, bitN] <;> omega
end Go.Proofs.YtnadilfobmgebaaGreatDoor
namespace Go.Proofs.YtnadilfobmgebaaGreatDoor
open Go Go.RowKit Go.Shelf
attribute [local go_sem] Oper.semAt_some
abbrev It7 := Int × Bool
abbrev enc7 (x : It7) : Array Value := #[.int .i64 x.1, .bool x.2]
def kaL (K : List Int) (A : Int → Bool) : List It7 := K.map fun k => (k, A k)
theorem kaL_len (K : List Int) (A : Int → Bool) : (kaL K A).length = K.length := by simp [kaL]
theorem kaL_take (K : List Int) (A : Int → Bool) {k : Nat} (h : k < K.length) : (kaL K A).take (k + 1) = (kaL K A).take k ++ [(K[k], A K[k])] := by
  rw [List.take_succ_eq_append_getElem (by rw [kaL_len]; exact h)]; simp [kaL]
theorem kabides_new {β : Type} {B : Nat} {J : β → World → Prop} (hJ : AbidesFrom B J) {s : β} {W W' : World} (h : J s W) (hu : Upd (fun _ => False) W W') : J s W' :=
  hJ s W W' none h ⟨hu.os, hu.tape, hu.output, hu.size, fun k hk _ => hu.block k hk (fun h => h)⟩ (fun r e => by cases e)
set_option maxRecDepth 100000 in
set_option maxHeartbeats 2000000 in
theorem ka_in (n : Nat) (hn : 2 ≤ n) (S : Nat → Prop) (l Bs Bm mb N : Nat) (K : List Int) (A : Int → Bool) (v : Value)
    (hle : K.length ≤ 4096) (hr : ∀ x ∈ K, InR x) (hv : ∀ g, v.ownBlock = some g → ¬ S g) (hBm : ¬ S Bm) (hmb : ¬ S mb) (J Jx : List It7 → World → Prop) (B0 : Nat) (hJ : AbidesFrom B0 J)
    (hY : ∀ pre (x : It7) W, J pre W → pre.length < K.length → YieldAt Fence.wide (n - 1) Tryz.prog l (enc7 x) W fun e W' =>
      (e = .returned (.bool true) ∧ J (pre ++ [x]) W' ∧ Upd S W W') ∨ (e = .returned (.bool false) ∧ Jx (pre ++ [x]) W'))
    (W : World) (hBs : W.cell? ⟨Bs, 0, none⟩ = some v) (hcm : W.cell? ⟨Bm, 0, none⟩ = some (.map (some mb))) (hs : Sl W 3 1 v K.length (ints K)) (ha : SetAt W mb N A) (h0 : J [] W) :
    CallsIn Fence.wide n Tryz.prog 261 #[.func (.yield l) #[] #[], .pointer (some ⟨Bs, 0, none⟩), .pointer (some ⟨Bm, 0, none⟩)] W fun e W' => (∃ v, e = .returned v) ∧
      ((∃ ys, ys = kaL K A ∧ J ys W') ∨ (∃ pre, pre <+: kaL K A ∧ Jx pre W')) := by
  have HS := Lib.hid hs
  have HA := Lib.hid ha
  have HV := Lib.hid hv
  have HR := Lib.hid hr
  have hBmW := (addr_of_cell hcm).2
  obtain ⟨ao, c, rfl⟩ := hs.rd.nil_iff
  clear hs ha hv hr
  refine callsIn_of_wp Tryz.func261 rfl trivial ?_ rfl
  simp only [Tryz.ntmps261, List.size_toArray, List.length_cons, List.length_nil, Nat.reduceAdd, Nat.reduceSub, Array.replicate_succ, Array.replicate_zero, List.push_toArray, List.append_toArray, List.nil_append, List.cons_append]
  gi_wp2
  gi_loopw [8] (fun i wr => ∃ k : Nat, k ≤ K.length ∧ i = .int .i64 k ∧ J ((kaL K A).take k) wr ∧ Upd S W wr)
    (fun i _ => K.length - (intOf i).toNat)
  case atStart => exact ⟨0, Nat.zero_le _, rfl, h0, Upd.refl _ _⟩
  case round =>
    obtain ⟨k, hk, rfl, hJs, hnx⟩ := hrel
    have hcm' : wr.cell? ⟨Bm, 0, none⟩ = some (.map (some mb)) := (hnx.cellAt hBmW hBm).trans hcm
    by_cases hlt : k < K.length
    · have hsr := HS.out.keep hnx HV.out
      obtain ⟨gk, ok, ck, hvk, hgk, hck⟩ := hsr.rd.at (by omega)
      cases hvk
      have hcell := hck k _ (get_ints hlt)
      have HA2 := Lib.hid (HA.out.keep hnx hmb)
      have HM : Hid ((kaL K A).take (k + 1) = (kaL K A).take k ++ [(K[k], A K[k])]) := kaL_take K A hlt
      have HLT : Hid (((kaL K A).take k).length < K.length) := by show _ < _; rw [List.length_take, kaL_len]; omega
      have hkr : InR K[k] := HR.out _ (List.getElem_mem hlt)
      obtain ⟨x, hx⟩ : ∃ x, x = K[k] := ⟨_, rfl⟩
      rw [← hx] at hcell HM hkr
      clear hsr hck hgk hx
      gi_wp2_with fail
      refine ⟨trivial, fun _ => by omega, ?_⟩
      refine (callsIn_wide.2 (wasAsked_any HA2.out x hkr)).mono ?_
      rintro e w3 ⟨rfl, hb3⟩
      have hu4 : Upd (fun _ => False) wr w3 := Upd.of_below hb3
      have HJ := Lib.hid (kabides_new hJ hJs hu4)
      have HU := Lib.hid (hnx.trans (hu4.mono (S' := S) (fun _ _ h => h.elim)))
      obtain ⟨fn, tmps, assign, body, hy, hR⟩ := hY _ (x, A x) w3 HJ.out HLT.out
      simp only [enc7] at hy
      clear hb3 hu4
      gi_wp2
      refine ⟨fun _ => by omega, ?_⟩
      refine hR.mono ?_
      rintro e W3 (⟨rfl, hJ3, hk3⟩ | ⟨rfl, hJx3⟩)
      · have HJ3 := Lib.hid hJ3
        have HU3 := Lib.hid (HU.out.trans hk3)
        clear hJ3 hk3 hR
        gi_wp2
        go_roundw
        case rel => exact ⟨k + 1, by omega, by simp, by rw [HM.out]; exact HJ3.out, HU3.out⟩
        case measure => simp [intOf]; omega
      · clear hR
        gi_wp2
        refine bodyPost_ret (results_none rfl _ _ _) rfl ?_
        exact ⟨⟨_, rfl⟩, .inr ⟨_, by rw [← HM.out]; exact List.take_prefix _ _, hJx3⟩⟩
    · obtain rfl : k = K.length := by omega
      have HT : Hid ((kaL K A).take K.length = kaL K A) := List.take_of_length_le (by rw [kaL_len]; exact Nat.le_refl _)
      gi_wp2
      go_end0
      exact ⟨⟨_, rfl⟩, .inl ⟨_, rfl, by rw [← HT.out]; exact hJs⟩⟩
def GivesE {α : Type} (enc : α → Array Value) (w : World) (gf : Nat) (lb : Array Value) (xs : List α) : Prop :=
  (∀ args w, (callFunc gf args).run Tryz.prog w = .ok (.enter gf args) w) ∧
  ∀ (n : Nat), 2 ≤ n → ∀ (S : Nat → Prop), (∀ j, S j → w.heap.size ≤ j) → ∀ w2, Below w.heap.size w w2 →
    SeqStopsK Fence.wide n Tryz.prog gf lb enc (Upd S) (fun ys => ys = xs) (fun pre => pre <+: xs) xs.length w2
theorem cell_set_same {W : World} {p : Nat} {v : Value} (h : ∃ u, W.cell? ⟨p, 0, none⟩ = some u) : (W.setCell ⟨p, 0, none⟩ v).cell? ⟨p, 0, none⟩ = some v := by
  obtain ⟨u, h⟩ := h
  exact World.cell?_setCell_same W _ v h
theorem cell_set_ne {W : World} {p q : Nat} {v : Value} (h : p ≠ q) : (W.setCell ⟨q, 0, none⟩ v).cell? ⟨p, 0, none⟩ = W.cell? ⟨p, 0, none⟩ :=
  World.cell?_of_block (a := ⟨p, 0, none⟩) (w := W) (Below.heap_setCell W ⟨q, 0, none⟩ v p h)
theorem cell_set_same2 {W : World} {p q : Nat} {v v' : Value} (hne : p ≠ q) (h : ∃ u, W.cell? ⟨p, 0, none⟩ = some u) : ((W.setCell ⟨q, 0, none⟩ v').setCell ⟨p, 0, none⟩ v).cell? ⟨p, 0, none⟩ = some v := by
  obtain ⟨u, h⟩ := h
  exact cell_set_same ⟨u, (cell_set_ne hne).trans h⟩
theorem cell_alloc_lt {W : World} {p : Nat} {o : Obj} (h : p < W.heap.size) : (W.alloc o).cell? ⟨p, 0, none⟩ = W.cell? ⟨p, 0, none⟩ :=
  World.cell?_of_block (a := ⟨p, 0, none⟩) (w := W) (Below.heap_alloc W o p h)
theorem cell_new {W : World} {n : Nat} {v : Value} {T : TypeId} (h : n = W.heap.size) : (W.alloc (.cells #[v] T)).cell? ⟨n, 0, none⟩ = some v :=
  cell_of_block (heap_alloc_last W _ h) 0
def AllPost (w : World) (N : Nat) (K : List Int) (A : Int → Bool) (e : Ending) (w' : World) : Prop :=
  ∃ Bs Bm v m2, e = .returned (.func (.func 261) #[] #[.pointer (some ⟨Bs, 0, none⟩), .pointer (some ⟨Bm, 0, none⟩)]) ∧
      w'.cell? ⟨Bs, 0, none⟩ = some v ∧ w'.cell? ⟨Bm, 0, none⟩ = some (.map (some m2)) ∧ Sl w' 3 1 v K.length (ints K) ∧ SetAt w' m2 N A ∧ Below w.heap.size w w'
theorem all_fin {w w3 w4 W : World} {N Bs Bm m2 : Nat} {K : List Int} {A : Int → Bool} {v : Value} {e : Ending} (he : e = .returned (.func (.func 261) #[] #[.pointer (some ⟨Bs, 0, none⟩), .pointer (some ⟨Bm, 0, none⟩)]))
    (c1 : W.cell? ⟨Bs, 0, none⟩ = some v) (c2 : W.cell? ⟨Bm, 0, none⟩ = some (.map (some m2))) (hs : Sl w3 3 1 v K.length (ints K)) (h34 : Upd (fun _ => False) w3 w4) (ha : SetAt w4 m2 N A) (hu : Upd (fun j => j = Bs ∨ j = Bm) w4 W)
    (hv : ∀ g, v.ownBlock = some g → g ≠ Bs ∧ g ≠ Bm) (hm : m2 ≠ Bs ∧ m2 ≠ Bm) (h03 : Upd (fun _ => False) w w3) (hB : w.heap.size ≤ Bs ∧ w.heap.size ≤ Bm) : AllPost w N K A e W :=
  ⟨Bs, Bm, v, m2, he, c1, c2, (hs.keep h34 (fun _ _ h => h)).keep hu (fun g hg h => h.elim (hv g hg).1 (hv g hg).2), ha.keep hu (fun h => h.elim hm.1 hm.2),
    below_upd (below_upd (below_upd (Below.refl _ w) h03 (Nat.le_refl _) (fun _ h => h.elim)) h34 (Nat.le_refl _) (fun _ h => h.elim)) hu (Nat.le_refl _) (fun _j h => h.elim (fun e => e ▸ hB.1) (fun e => e ▸ hB.2))⟩
set_option maxRecDepth 100000 in
set_option maxHeartbeats 4000000 in
theorem kall_at {w : World} {b mb N most few : Nat} {vk vg : Value} {K G : List Int} {A : Int → Bool} (h : CkAt w b mb N vk vg most few K A G) :
    Calls Tryz.prog 249 #[.pointer (some ⟨b, 0, none⟩)] w (AllPost w N K A) := by
  have H := Lib.hid (fun (W : World) (hu : Upd (fun _ => False) w W) => h.keep hu (fun _ _ h => h))
  have hblt := h.blt
  have hkl := h.kle
  have hk4 : K.length ≤ 4096 := by omega
  have g2 := h.c.2.2.1
  have g3 := h.c.2.2.2.1
  clear h
  have nw0 : ¬ b = w.heap.size := by omega
  have nw1 : ¬ w.heap.size = b := by omega
  have nw2 : ¬ b = w.heap.size + 1 := by omega
  have nw3 : ¬ w.heap.size + 1 = b := by omega
  have C0 := Lib.hid (H.out (w.drew) ((Upd.refl _ _).drew))
  have CA := Lib.hid (H.out ((w.alloc (.cells #[.slice none 0 0] 100)).drew) (((Upd.refl _ _).alloc _).drew))
  have LA0 : Hid (((w.alloc (.cells #[.slice none 0 0] 100)).drew).heap[w.heap.size]? = some (.cells #[.slice none 0 0] 100 (0, 0))) := heap_alloc_last w _ rfl
  have CB := Lib.hid (H.out ((w.alloc (.cells #[.map none] 291)).drew) (((Upd.refl _ _).alloc _).drew))
  have LB0 : Hid (((w.alloc (.cells #[.map none] 291)).drew).heap[w.heap.size]? = some (.cells #[.map none] 291 (0, 0))) := heap_alloc_last w _ rfl
  have CAB := Lib.hid (H.out (((w.alloc (.cells #[.slice none 0 0] 100)).alloc (.cells #[.map none] 291)).drew) ((((Upd.refl _ _).alloc _).alloc _).drew))
  have LAB0 : Hid ((((w.alloc (.cells #[.slice none 0 0] 100)).alloc (.cells #[.map none] 291)).drew).heap[w.heap.size]? = some (.cells #[.slice none 0 0] 100 (0, 0))) := ((((Upd.refl (fun _ => False) (w.alloc (.cells #[.slice none 0 0] 100))).alloc (.cells #[.map none] 291)).block w.heap.size (by simp) (fun h => h)).trans (heap_alloc_last w _ rfl))
  have LAB1 : Hid ((((w.alloc (.cells #[.slice none 0 0] 100)).alloc (.cells #[.map none] 291)).drew).heap[w.heap.size + 1]? = some (.cells #[.map none] 291 (0, 0))) := heap_alloc_last (w.alloc _) _ (by simp)
  have CBA := Lib.hid (H.out (((w.alloc (.cells #[.map none] 291)).alloc (.cells #[.slice none 0 0] 100)).drew) ((((Upd.refl _ _).alloc _).alloc _).drew))
  have LBA0 : Hid ((((w.alloc (.cells #[.map none] 291)).alloc (.cells #[.slice none 0 0] 100)).drew).heap[w.heap.size]? = some (.cells #[.map none] 291 (0, 0))) := ((((Upd.refl (fun _ => False) (w.alloc (.cells #[.map none] 291))).alloc (.cells #[.slice none 0 0] 100)).block w.heap.size (by simp) (fun h => h)).trans (heap_alloc_last w _ rfl))
  have LBA1 : Hid ((((w.alloc (.cells #[.map none] 291)).alloc (.cells #[.slice none 0 0] 100)).drew).heap[w.heap.size + 1]? = some (.cells #[.slice none 0 0] 100 (0, 0))) := heap_alloc_last (w.alloc _) _ (by simp)
  go_enter Tryz.func249, Tryz.ntmps249
  go_wp2
  go_region_held3 (fun W => W.cell? ⟨b, 2, none⟩ = some vk ∧ W.cell? ⟨b, 3, none⟩ = some (.map (some mb))) (go_keep)
    (first
    | ((go_at_call 70; (with_reducible refine (cloneI_any C0.out.ks.rd hk4).mono ?_); rintro e w3 ⟨v3, rfl, hs3, hf3, hb3⟩; obtain ⟨ao3, c3, rfl⟩ := hs3.rd.nil_iff; have hu3 : Upd (fun _ => False) w w3 := Upd.trans ((Upd.refl _ _).drew) (Upd.of_below hb3); have hX : Hid (∀ W, Upd (fun _ => False) w3 W → True ∧ True) := fun W hu => ⟨trivial, trivial⟩; have bl3 : b < w3.heap.size := Nat.lt_of_lt_of_le hblt hu3.size; have nx0 : ¬ b = w3.heap.size := (by omega); have nx1 : ¬ w3.heap.size = b := (by omega); have nx2 : ¬ b = w3.heap.size + 1 := (by omega); have nx3 : ¬ w3.heap.size + 1 = b := (by omega); have k2 := (H.out _ hu3).c.2.2.1; have k3 := (H.out _ hu3).c.2.2.2.1; have F3 := Lib.hid (And.intro hs3 (And.intro hf3 (And.intro hb3 hu3))); clear hs3 hf3 hb3 hu3))
    | ((go_at_call 70; (with_reducible refine (cloneI_any CA.out.ks.rd hk4).mono ?_); rintro e w3 ⟨v3, rfl, hs3, hf3, hb3⟩; obtain ⟨ao3, c3, rfl⟩ := hs3.rd.nil_iff; have hu3 : Upd (fun _ => False) w w3 := Upd.trans (((Upd.refl _ _).alloc _).drew) (Upd.of_below hb3); have hX : Hid (∀ W, Upd (fun _ => False) w3 W → W.heap[w.heap.size]? = some (.cells #[.slice none 0 0] 100 (0, 0)) ∧ True) := fun W hu => ⟨(hu.block _ (Nat.lt_of_lt_of_le (lt_of_block LA0.out) hb3.size) (fun h => h)).trans ((hb3.block _ (lt_of_block LA0.out)).trans LA0.out), trivial⟩; have z0 : w.heap.size < w3.heap.size := Nat.lt_of_lt_of_le (lt_of_block LA0.out) hb3.size; have za0 := Nat.ne_of_lt z0; have zb0 := Nat.ne_of_gt z0; have bl3 : b < w3.heap.size := Nat.lt_of_lt_of_le hblt hu3.size; have nx0 : ¬ b = w3.heap.size := (by omega); have nx1 : ¬ w3.heap.size = b := (by omega); have nx2 : ¬ b = w3.heap.size + 1 := (by omega); have nx3 : ¬ w3.heap.size + 1 = b := (by omega); have k2 := (H.out _ hu3).c.2.2.1; have k3 := (H.out _ hu3).c.2.2.2.1; have F3 := Lib.hid (And.intro hs3 (And.intro hf3 (And.intro hb3 hu3))); clear hs3 hf3 hb3 hu3))
    | ((go_at_call 70; (with_reducible refine (cloneI_any CB.out.ks.rd hk4).mono ?_); rintro e w3 ⟨v3, rfl, hs3, hf3, hb3⟩; obtain ⟨ao3, c3, rfl⟩ := hs3.rd.nil_iff; have hu3 : Upd (fun _ => False) w w3 := Upd.trans (((Upd.refl _ _).alloc _).drew) (Upd.of_below hb3); have hX : Hid (∀ W, Upd (fun _ => False) w3 W → W.heap[w.heap.size]? = some (.cells #[.map none] 291 (0, 0)) ∧ True) := fun W hu => ⟨(hu.block _ (Nat.lt_of_lt_of_le (lt_of_block LB0.out) hb3.size) (fun h => h)).trans ((hb3.block _ (lt_of_block LB0.out)).trans LB0.out), trivial⟩; have z0 : w.heap.size < w3.heap.size := Nat.lt_of_lt_of_le (lt_of_block LB0.out) hb3.size; have za0 := Nat.ne_of_lt z0; have zb0 := Nat.ne_of_gt z0; have bl3 : b < w3.heap.size := Nat.lt_of_lt_of_le hblt hu3.size; have nx0 : ¬ b = w3.heap.size := (by omega); have nx1 : ¬ w3.heap.size = b := (by omega); have nx2 : ¬ b = w3.heap.size + 1 := (by omega); have nx3 : ¬ w3.heap.size + 1 = b := (by omega); have k2 := (H.out _ hu3).c.2.2.1; have k3 := (H.out _ hu3).c.2.2.2.1; have F3 := Lib.hid (And.intro hs3 (And.intro hf3 (And.intro hb3 hu3))); clear hs3 hf3 hb3 hu3))
    | ((go_at_call 70; (with_reducible refine (cloneI_any CAB.out.ks.rd hk4).mono ?_); rintro e w3 ⟨v3, rfl, hs3, hf3, hb3⟩; obtain ⟨ao3, c3, rfl⟩ := hs3.rd.nil_iff; have hu3 : Upd (fun _ => False) w w3 := Upd.trans ((((Upd.refl _ _).alloc _).alloc _).drew) (Upd.of_below hb3); have hX : Hid (∀ W, Upd (fun _ => False) w3 W → W.heap[w.heap.size]? = some (.cells #[.slice none 0 0] 100 (0, 0)) ∧ W.heap[w.heap.size + 1]? = some (.cells #[.map none] 291 (0, 0))) := fun W hu => ⟨(hu.block _ (Nat.lt_of_lt_of_le (lt_of_block LAB0.out) hb3.size) (fun h => h)).trans ((hb3.block _ (lt_of_block LAB0.out)).trans LAB0.out), (hu.block _ (Nat.lt_of_lt_of_le (lt_of_block LAB1.out) hb3.size) (fun h => h)).trans ((hb3.block _ (lt_of_block LAB1.out)).trans LAB1.out)⟩; have z0 : w.heap.size < w3.heap.size := Nat.lt_of_lt_of_le (lt_of_block LAB0.out) hb3.size; have za0 := Nat.ne_of_lt z0; have zb0 := Nat.ne_of_gt z0; have z1 : w.heap.size + 1 < w3.heap.size := Nat.lt_of_lt_of_le (lt_of_block LAB1.out) hb3.size; have za1 := Nat.ne_of_lt z1; have zb1 := Nat.ne_of_gt z1; have bl3 : b < w3.heap.size := Nat.lt_of_lt_of_le hblt hu3.size; have nx0 : ¬ b = w3.heap.size := (by omega); have nx1 : ¬ w3.heap.size = b := (by omega); have nx2 : ¬ b = w3.heap.size + 1 := (by omega); have nx3 : ¬ w3.heap.size + 1 = b := (by omega); have k2 := (H.out _ hu3).c.2.2.1; have k3 := (H.out _ hu3).c.2.2.2.1; have F3 := Lib.hid (And.intro hs3 (And.intro hf3 (And.intro hb3 hu3))); clear hs3 hf3 hb3 hu3))
    | ((go_at_call 70; (with_reducible refine (cloneI_any CBA.out.ks.rd hk4).mono ?_); rintro e w3 ⟨v3, rfl, hs3, hf3, hb3⟩; obtain ⟨ao3, c3, rfl⟩ := hs3.rd.nil_iff; have hu3 : Upd (fun _ => False) w w3 := Upd.trans ((((Upd.refl _ _).alloc _).alloc _).drew) (Upd.of_below hb3); have hX : Hid (∀ W, Upd (fun _ => False) w3 W → W.heap[w.heap.size]? = some (.cells #[.map none] 291 (0, 0)) ∧ W.heap[w.heap.size + 1]? = some (.cells #[.slice none 0 0] 100 (0, 0))) := fun W hu => ⟨(hu.block _ (Nat.lt_of_lt_of_le (lt_of_block LBA0.out) hb3.size) (fun h => h)).trans ((hb3.block _ (lt_of_block LBA0.out)).trans LBA0.out), (hu.block _ (Nat.lt_of_lt_of_le (lt_of_block LBA1.out) hb3.size) (fun h => h)).trans ((hb3.block _ (lt_of_block LBA1.out)).trans LBA1.out)⟩; have z0 : w.heap.size < w3.heap.size := Nat.lt_of_lt_of_le (lt_of_block LBA0.out) hb3.size; have za0 := Nat.ne_of_lt z0; have zb0 := Nat.ne_of_gt z0; have z1 : w.heap.size + 1 < w3.heap.size := Nat.lt_of_lt_of_le (lt_of_block LBA1.out) hb3.size; have za1 := Nat.ne_of_lt z1; have zb1 := Nat.ne_of_gt z1; have bl3 : b < w3.heap.size := Nat.lt_of_lt_of_le hblt hu3.size; have nx0 : ¬ b = w3.heap.size := (by omega); have nx1 : ¬ w3.heap.size = b := (by omega); have nx2 : ¬ b = w3.heap.size + 1 := (by omega); have nx3 : ¬ w3.heap.size + 1 = b := (by omega); have k2 := (H.out _ hu3).c.2.2.1; have k3 := (H.out _ hu3).c.2.2.2.1; have F3 := Lib.hid (And.intro hs3 (And.intro hf3 (And.intro hb3 hu3))); clear hs3 hf3 hb3 hu3))
    | ((go_at_call 252; (with_reducible refine (sclone_any (w := w3) (H.out _ (F3.out.2.2.2.trans (Upd.refl _ _))).set).mono ?_); rintro e w4 ⟨rfl, hset4, hb4⟩; have hu34 : Upd (fun _ => False) w3 w4 := Upd.trans (Upd.refl _ _) (Upd.of_below hb4); obtain ⟨x0, x1⟩ := hX.out _ hu34; (try (have xa := cell_of_block x0 0)); (try (have xb := frozen_of_block x0 0)); (try (have xc := cell_of_block x1 0)); (try (have xd := frozen_of_block x1 0)); (try simp at xa); (try simp at xc); (try (have ya := lt_of_block x0)); (try (have yb := lt_of_block x1)); (try (have yc := Nat.ne_of_lt ya)); (try (have yd := Nat.ne_of_gt ya)); (try (have ye := Nat.ne_of_lt yb)); (try (have yf := Nat.ne_of_gt yb)); have X0 := Lib.hid x0; have X1 := Lib.hid x1; clear x0 x1; have M0 : Hid True := trivial; have M1 : Hid True := trivial; have bl4 : b < w4.heap.size := Nat.lt_of_lt_of_le (Nat.lt_of_lt_of_le hblt F3.out.2.2.2.size) hu34.size; have ny0 : ¬ b = w4.heap.size := (by omega); have ny1 : ¬ w4.heap.size = b := (by omega); have ny2 : ¬ b = w4.heap.size + 1 := (by omega); have ny3 : ¬ w4.heap.size + 1 = b := (by omega); have l2 := (H.out _ (F3.out.2.2.2.trans hu34)).c.2.2.1; have l3 := (H.out _ (F3.out.2.2.2.trans hu34)).c.2.2.2.1; have F4 := Lib.hid (And.intro hset4 (And.intro hb4 hu34)); clear hset4 hb4 hu34))
    | ((go_at_call 252; (with_reducible refine (sclone_any (w := (w3.alloc (.cells #[.slice none 0 0] 100))) (H.out _ (F3.out.2.2.2.trans ((Upd.refl _ _).alloc _))).set).mono ?_); rintro e w4 ⟨rfl, hset4, hb4⟩; have hu34 : Upd (fun _ => False) w3 w4 := Upd.trans ((Upd.refl _ _).alloc _) (Upd.of_below hb4); obtain ⟨x0, x1⟩ := hX.out _ hu34; (try (have xa := cell_of_block x0 0)); (try (have xb := frozen_of_block x0 0)); (try (have xc := cell_of_block x1 0)); (try (have xd := frozen_of_block x1 0)); (try simp at xa); (try simp at xc); (try (have ya := lt_of_block x0)); (try (have yb := lt_of_block x1)); (try (have yc := Nat.ne_of_lt ya)); (try (have yd := Nat.ne_of_gt ya)); (try (have ye := Nat.ne_of_lt yb)); (try (have yf := Nat.ne_of_gt yb)); have X0 := Lib.hid x0; have X1 := Lib.hid x1; clear x0 x1; have m0 : w4.heap[w3.heap.size]? = some (.cells #[.slice none 0 0] 100 (0, 0)) := (hb4.block _ (by simp only [World.size_alloc]; omega)).trans (heap_alloc_last w3 _ rfl); have n0 := cell_of_block m0 0; have o0 := frozen_of_block m0 0; simp at n0; have M0 := Lib.hid m0; have lt0 := lt_of_block m0; have na0 := Nat.ne_of_lt lt0; have nb0 := Nat.ne_of_gt lt0; clear m0; have M1 : Hid True := trivial; have bl4 : b < w4.heap.size := Nat.lt_of_lt_of_le (Nat.lt_of_lt_of_le hblt F3.out.2.2.2.size) hu34.size; have ny0 : ¬ b = w4.heap.size := (by omega); have ny1 : ¬ w4.heap.size = b := (by omega); have ny2 : ¬ b = w4.heap.size + 1 := (by omega); have ny3 : ¬ w4.heap.size + 1 = b := (by omega); have l2 := (H.out _ (F3.out.2.2.2.trans hu34)).c.2.2.1; have l3 := (H.out _ (F3.out.2.2.2.trans hu34)).c.2.2.2.1; have F4 := Lib.hid (And.intro hset4 (And.intro hb4 hu34)); clear hset4 hb4 hu34))
    | ((go_at_call 252; (with_reducible refine (sclone_any (w := (w3.alloc (.cells #[.map none] 291))) (H.out _ (F3.out.2.2.2.trans ((Upd.refl _ _).alloc _))).set).mono ?_); rintro e w4 ⟨rfl, hset4, hb4⟩; have hu34 : Upd (fun _ => False) w3 w4 := Upd.trans ((Upd.refl _ _).alloc _) (Upd.of_below hb4); obtain ⟨x0, x1⟩ := hX.out _ hu34; (try (have xa := cell_of_block x0 0)); (try (have xb := frozen_of_block x0 0)); (try (have xc := cell_of_block x1 0)); (try (have xd := frozen_of_block x1 0)); (try simp at xa); (try simp at xc); (try (have ya := lt_of_block x0)); (try (have yb := lt_of_block x1)); (try (have yc := Nat.ne_of_lt ya)); (try (have yd := Nat.ne_of_gt ya)); (try (have ye := Nat.ne_of_lt yb)); (try (have yf := Nat.ne_of_gt yb)); have X0 := Lib.hid x0; have X1 := Lib.hid x1; clear x0 x1; have m0 : w4.heap[w3.heap.size]? = some (.cells #[.map none] 291 (0, 0)) := (hb4.block _ (by simp only [World.size_alloc]; omega)).trans (heap_alloc_last w3 _ rfl); have n0 := cell_of_block m0 0; have o0 := frozen_of_block m0 0; simp at n0; have M0 := Lib.hid m0; have lt0 := lt_of_block m0; have na0 := Nat.ne_of_lt lt0; have nb0 := Nat.ne_of_gt lt0; clear m0; have M1 : Hid True := trivial; have bl4 : b < w4.heap.size := Nat.lt_of_lt_of_le (Nat.lt_of_lt_of_le hblt F3.out.2.2.2.size) hu34.size; have ny0 : ¬ b = w4.heap.size := (by omega); have ny1 : ¬ w4.heap.size = b := (by omega); have ny2 : ¬ b = w4.heap.size + 1 := (by omega); have ny3 : ¬ w4.heap.size + 1 = b := (by omega); have l2 := (H.out _ (F3.out.2.2.2.trans hu34)).c.2.2.1; have l3 := (H.out _ (F3.out.2.2.2.trans hu34)).c.2.2.2.1; have F4 := Lib.hid (And.intro hset4 (And.intro hb4 hu34)); clear hset4 hb4 hu34))
    | ((go_at_call 252; (with_reducible refine (sclone_any (w := ((w3.alloc (.cells #[.slice none 0 0] 100)).alloc (.cells #[.map none] 291))) (H.out _ (F3.out.2.2.2.trans (((Upd.refl _ _).alloc _).alloc _))).set).mono ?_); rintro e w4 ⟨rfl, hset4, hb4⟩; have hu34 : Upd (fun _ => False) w3 w4 := Upd.trans (((Upd.refl _ _).alloc _).alloc _) (Upd.of_below hb4); obtain ⟨x0, x1⟩ := hX.out _ hu34; (try (have xa := cell_of_block x0 0)); (try (have xb := frozen_of_block x0 0)); (try (have xc := cell_of_block x1 0)); (try (have xd := frozen_of_block x1 0)); (try simp at xa); (try simp at xc); (try (have ya := lt_of_block x0)); (try (have yb := lt_of_block x1)); (try (have yc := Nat.ne_of_lt ya)); (try (have yd := Nat.ne_of_gt ya)); (try (have ye := Nat.ne_of_lt yb)); (try (have yf := Nat.ne_of_gt yb)); have X0 := Lib.hid x0; have X1 := Lib.hid x1; clear x0 x1; have m0 : w4.heap[w3.heap.size]? = some (.cells #[.slice none 0 0] 100 (0, 0)) := (hb4.block _ (by simp only [World.size_alloc]; omega)).trans (((((Upd.refl (fun _ => False) (w3.alloc (.cells #[.slice none 0 0] 100))).alloc (.cells #[.map none] 291)).block w3.heap.size (by simp) (fun h => h)).trans (heap_alloc_last w3 _ rfl))); have n0 := cell_of_block m0 0; have o0 := frozen_of_block m0 0; simp at n0; have M0 := Lib.hid m0; have lt0 := lt_of_block m0; have na0 := Nat.ne_of_lt lt0; have nb0 := Nat.ne_of_gt lt0; clear m0; have m1 : w4.heap[w3.heap.size + 1]? = some (.cells #[.map none] 291 (0, 0)) := (hb4.block _ (by simp only [World.size_alloc]; omega)).trans (heap_alloc_last (w3.alloc _) _ (by simp)); have n1 := cell_of_block m1 0; have o1 := frozen_of_block m1 0; simp at n1; have M1 := Lib.hid m1; have lt1 := lt_of_block m1; have na1 := Nat.ne_of_lt lt1; have nb1 := Nat.ne_of_gt lt1; clear m1; have bl4 : b < w4.heap.size := Nat.lt_of_lt_of_le (Nat.lt_of_lt_of_le hblt F3.out.2.2.2.size) hu34.size; have ny0 : ¬ b = w4.heap.size := (by omega); have ny1 : ¬ w4.heap.size = b := (by omega); have ny2 : ¬ b = w4.heap.size + 1 := (by omega); have ny3 : ¬ w4.heap.size + 1 = b := (by omega); have l2 := (H.out _ (F3.out.2.2.2.trans hu34)).c.2.2.1; have l3 := (H.out _ (F3.out.2.2.2.trans hu34)).c.2.2.2.1; have F4 := Lib.hid (And.intro hset4 (And.intro hb4 hu34)); clear hset4 hb4 hu34))
    | ((go_at_call 252; (with_reducible refine (sclone_any (w := ((w3.alloc (.cells #[.map none] 291)).alloc (.cells #[.slice none 0 0] 100))) (H.out _ (F3.out.2.2.2.trans (((Upd.refl _ _).alloc _).alloc _))).set).mono ?_); rintro e w4 ⟨rfl, hset4, hb4⟩; have hu34 : Upd (fun _ => False) w3 w4 := Upd.trans (((Upd.refl _ _).alloc _).alloc _) (Upd.of_below hb4); obtain ⟨x0, x1⟩ := hX.out _ hu34; (try (have xa := cell_of_block x0 0)); (try (have xb := frozen_of_block x0 0)); (try (have xc := cell_of_block x1 0)); (try (have xd := frozen_of_block x1 0)); (try simp at xa); (try simp at xc); (try (have ya := lt_of_block x0)); (try (have yb := lt_of_block x1)); (try (have yc := Nat.ne_of_lt ya)); (try (have yd := Nat.ne_of_gt ya)); (try (have ye := Nat.ne_of_lt yb)); (try (have yf := Nat.ne_of_gt yb)); have X0 := Lib.hid x0; have X1 := Lib.hid x1; clear x0 x1; have m0 : w4.heap[w3.heap.size]? = some (.cells #[.map none] 291 (0, 0)) := (hb4.block _ (by simp only [World.size_alloc]; omega)).trans (((((Upd.refl (fun _ => False) (w3.alloc (.cells #[.map none] 291))).alloc (.cells #[.slice none 0 0] 100)).block w3.heap.size (by simp) (fun h => h)).trans (heap_alloc_last w3 _ rfl))); have n0 := cell_of_block m0 0; have o0 := frozen_of_block m0 0; simp at n0; have M0 := Lib.hid m0; have lt0 := lt_of_block m0; have na0 := Nat.ne_of_lt lt0; have nb0 := Nat.ne_of_gt lt0; clear m0; have m1 : w4.heap[w3.heap.size + 1]? = some (.cells #[.slice none 0 0] 100 (0, 0)) := (hb4.block _ (by simp only [World.size_alloc]; omega)).trans (heap_alloc_last (w3.alloc _) _ (by simp)); have n1 := cell_of_block m1 0; have o1 := frozen_of_block m1 0; simp at n1; have M1 := Lib.hid m1; have lt1 := lt_of_block m1; have na1 := Nat.ne_of_lt lt1; have nb1 := Nat.ne_of_gt lt1; clear m1; have bl4 : b < w4.heap.size := Nat.lt_of_lt_of_le (Nat.lt_of_lt_of_le hblt F3.out.2.2.2.size) hu34.size; have ny0 : ¬ b = w4.heap.size := (by omega); have ny1 : ¬ w4.heap.size = b := (by omega); have ny2 : ¬ b = w4.heap.size + 1 := (by omega); have ny3 : ¬ w4.heap.size + 1 = b := (by omega); have l2 := (H.out _ (F3.out.2.2.2.trans hu34)).c.2.2.1; have l3 := (H.out _ (F3.out.2.2.2.trans hu34)).c.2.2.2.1; have F4 := Lib.hid (And.intro hset4 (And.intro hb4 hu34)); clear hset4 hb4 hu34)))
  all_goals
    go_wp2
    go_ret
    have hz3 := F3.out.2.2.1.size
    have hz4 := F4.out.2.1.size
    have hz34 := F4.out.2.2.size
    have hm4 := F4.out.1.lt
    simp only [World.size_alloc, World.size_drew] at hz3 hz4 hm4
    have hvb : ∀ g, (Value.slice ao3 K.length c3).ownBlock = some g → g < w3.heap.size := fun g hg => F3.out.1.lt hg
    have hvf : ∀ g, (Value.slice ao3 K.length c3).ownBlock = some g → _ ≤ g := F3.out.2.1
    simp only [World.size_alloc, World.size_drew] at hvf
    refine all_fin rfl ?c1 ?c2 F3.out.1 F4.out.2.2 F4.out.1 ?u ?v ?m F3.out.2.2.2 ?B
    case u => (repeat (first | exact Upd.refl _ _ | refine Upd.alloc ?_ _ | refine Upd.setCell ?_ _ (fun _ => by simp) _))
    case B => exact ⟨by omega, by omega⟩
    case m => (try simp only [World.size_alloc]); exact ⟨by omega, by omega⟩
    case v => exact fun g hg => ⟨by have := hvb g hg; have := hvf g hg; omega, by have := hvb g hg; have := hvf g hg; omega⟩
    case c1 => with_reducible first | (first | exact cell_new (by simp) | exact cell_set_same2 (by omega) ⟨_, ‹_›⟩ | exact cell_set_same ⟨_, ‹_›⟩) | (refine (cell_set_ne ?_).trans ?_; omega; first | exact cell_new (by simp) | exact cell_set_same2 (by omega) ⟨_, ‹_›⟩ | exact cell_set_same ⟨_, ‹_›⟩) | (refine (cell_alloc_lt ?_).trans ?_; ((try simp only [World.size_alloc, World.size_setCell]); omega); first | exact cell_new (by simp) | exact cell_set_same2 (by omega) ⟨_, ‹_›⟩ | exact cell_set_same ⟨_, ‹_›⟩)
    case c2 => (try simp only [World.size_alloc]); with_reducible first | (first | exact cell_new (by simp) | exact cell_set_same2 (by omega) ⟨_, ‹_›⟩ | exact cell_set_same ⟨_, ‹_›⟩) | (refine (cell_set_ne ?_).trans ?_; omega; first | exact cell_new (by simp) | exact cell_set_same2 (by omega) ⟨_, ‹_›⟩ | exact cell_set_same ⟨_, ‹_›⟩) | (refine (cell_alloc_lt ?_).trans ?_; ((try simp only [World.size_alloc, World.size_setCell]); omega); first | exact cell_new (by simp) | exact cell_set_same2 (by omega) ⟨_, ‹_›⟩ | exact cell_set_same ⟨_, ‹_›⟩)
theorem kall_gives {S : Nat → Prop} {w : World} {b N most few : Nat} {K G : List Int} {A : Int → Bool} (h : Ck S w b N most few K A G) :
    Calls Tryz.prog 249 #[.pointer (some ⟨b, 0, none⟩)] w fun e w' => ∃ gf lb, e = .returned (.func (.func gf) #[] lb) ∧ GivesE enc7 w' gf lb (kaL K A) ∧ Below w.heap.size w w' := by
  obtain ⟨mb, vk, vg, h, -⟩ := h
  refine (kall_at h).mono ?_
  rintro e w1 ⟨Bs, Bm, v, m2, rfl, c1, c2, hs, ha, hB⟩
  refine ⟨_, _, rfl, ⟨enters_of Tryz.func261 (by kernel_rfl) rfl, fun n hn S hS w2 hw2 => ?_⟩, hB⟩
  intro l J Jx W hW hJ _ hY h0
  have hlt : ∀ {j : Nat}, j < w1.heap.size → ¬ S j := fun hj e => by have := hS _ e; omega
  have hU : Upd (fun _ => False) w1 w2 := Upd.of_below hw2
  have hU2 : Upd (fun _ => False) w1 W := hU.trans (Upd.of_below hW)
  rw [kaL_len] at hY
  exact ka_in n hn S l Bs Bm m2 N K A v (by have := h.kle; omega) h.good.kr (fun g hg => hlt (hs.lt hg)) (hlt (addr_of_cell c2).2) (hlt ha.lt) J Jx W.heap.size hJ hY W ((hU2.cellAt (addr_of_cell c1).2 (fun h => h)).trans c1) ((hU2.cellAt (addr_of_cell c2).2 (fun h => h)).trans c2)
    (hs.keep hU2 (fun _ _ h => h)) (ha.keep hU2 (fun h => h)) h0
end Go.Proofs.YtnadilfobmgebaaGreatDoor
