/- attach.Apply. attach.row: steps one behind the other, up to the first error; attach.match. attach.Format: its steps. Superblocks: their numbers, which may be. -/
import Derived.Test.YtfhfbpmlnjdfoaaGreatDoorA10
import Derived.Test.YtfhfbpmlnjdfoaaGreatDoorA14
import Derived.Test.YtfhfbpmlnjdfoaaGreatDoorA27
import Derived.Test.YtfhfbpmlnjdfoaaGreatDoorA08
import Derived.Test.YtfhfbpmlnjdfoaaGreatDoorA09
import Derived.Test.YtfhfbpmlnjdfoaaGreatDoorA13
import Derived.Test.YtfhfbpmlnjdfoaaGreatDoorA16
import Derived.Test.YtfhfbpmlnjdfoaaGreatDoorA24
import Derived.Test.YtfhfbpmlnjdfoaaGreatDoorA06
namespace Go.Proofs.YtfhfbpmlnjdfoaaGreatDoor
open Go Go.RowKit Go.Shelf Go.Lib
theorem zeroEnt (w : World) : (zeroValue 37).run Tryz.prog w = .ok EI.zero.enc w := by kernel_rfl
theorem infoTh4 : (Tryz.prog.info? 37).map (·.size) = some 4 := by kernel_rfl
theorem buildE (b s : Int) (d : Bool) (x : Int) (W : World) : (Instr.build 37 #[(0, .int .i64 b), (1, .int .i64 s), (2, .bool d), (3, .int .i64 x)]).run Tryz.prog W = .ok (.agg #[.int .i64 b, .int .i64 s, .bool d, .int .i64 x]) W := by
  kernel_rfl
def ApOut (w : World) (l : List EI) (rs : List (List Int)) (e : Ending) (w' : World) : Prop :=
  ∃ (v : Value) (L : List EI) (c : Int), e = .returned (.tuple #[v, .int .i64 c]) ∧ Sl w' 37 4 v L.length (L.flatMap EI.cs) ∧ From w.heap.size v ∧ Below w.heap.size w w' ∧
    ((c = 12 ∧ L = [] ∧ (¬ (l.map EI.b).Nodup ∨ ∃ L0, Lists (apRs (apM l) rs) L0 ∧ ¬ (L0.map EI.s).Nodup)) ∨
     (c = 0 ∧ (l.map EI.b).Nodup ∧ Lists (apRs (apM l) rs) L ∧ (L.map EI.s).Nodup ∧ L.Pairwise (fun x y => x.b < y.b)))
set_option maxRecDepth 100000 in
set_option maxHeartbeats 4000000 in
theorem aapply {w : World} {v u : Value} {l : List EI} {rs : List (List Int)} (hs : Rd w 4 v l.length (l.flatMap EI.cs)) (hr : Rd w 7 u rs.length (rs.flatMap dsR)) (hl1 : l.length ≤ 65536) (hr1 : rs.length ≤ 65536)
    (hl : ∀ e ∈ l, I64 e.b ∧ I64 e.s) (hrr : ∀ r ∈ rs, I64 (r.getD 3 0) ∧ I64 (r.getD 4 0)) :
    Calls Tryz.prog 12 #[v, u] w (ApOut w l rs) := by
  obtain ⟨ao, cap, rfl⟩ := hs.nil_iff
  obtain ⟨bo, cbp, rfl⟩ := hr.nil_iff
  have hmm := @run_makeMap Tryz.prog
  obtain ⟨M, hM⟩ : ∃ M, M = w.heap.size := ⟨_, rfl⟩
  obtain ⟨w1, hw1⟩ : ∃ w1, w1 = w.alloc (.map #[] 0) := ⟨_, rfl⟩
  have hb1 : Below w.heap.size w w1 := by rw [hw1]; exact (Below.refl _ w).alloc (Nat.le_refl _) _
  have hm1 : MapG EI.enc w1 M 0 (apM []) := by rw [hw1, hM]; exact MapG.made w
  have z1 : w1.heap.size = M + 1 := by rw [hw1, hM]; simp
  have HW := Lib.hid (And.intro hw1 hM)
  have H := Lib.hid (And.intro hs (And.intro hr (And.intro hl (And.intro hrr (And.intro hb1 (And.intro hm1 z1))))))
  clear hs hr hl hrr hb1 hm1 z1 hw1 hM
  go_enter Tryz.func12, Tryz.ntmps12
  go_wp2_with fail
  rw [← HW.out.1, ← HW.out.2]
  clear hmm
  go_loopg [20] l.length (fun gk s20 wr => ∃ k : Nat, k + gk = l.length ∧ s20 = .int .i64 (k : Int) ∧ MapG EI.enc wr M k (apM (l.take k)) ∧ ((l.take k).map EI.b).Nodup ∧ Below w.heap.size w wr)
  case atStart => exact ⟨0, by omega, rfl, H.out.2.2.2.2.2.1, List.nodup_nil, H.out.2.2.2.2.1⟩
  case round =>
    obtain ⟨k, hk, rfl, hm, hnd, hb⟩ := hrel
    by_cases hlt : k < l.length
    · have k1 : (k : Int) < (l.length : Int) := by omega
      have k0 : (0 : Int) ≤ (k : Int) := by omega
      obtain ⟨g, o, cp, e, hgl, hcell⟩ := H.out.1.at (by omega)
      cases e
      have hx := flat_row (enc := EI.cs) (m := 4) (fun _ => rfl) hcell hlt
      have hin := H.out.2.2.1 _ (List.getElem_mem hlt)
      have hnx := apM_take l hlt
      have hn1 := @nodup_snoc l k hlt hnd
      have hn2 := @nodup_not l k hlt
      obtain ⟨x, hxx⟩ : ∃ x, x = l[k] := ⟨_, rfl⟩
      rw [← hxx] at hx hin hnx hn1 hn2
      have hrow : wr.rangeAt g (o + k * 4) x.cs := Below.range hb hx
      obtain ⟨cs, hcs⟩ : ∃ cs, cs = x.cs := ⟨_, rfl⟩
      rw [← hcs] at hrow
      obtain ⟨w2, hw2⟩ : ∃ w2, w2 = wr.alloc (.cells cs.toArray 37) := ⟨_, rfl⟩
      have hu2 : Upd (fun _ => False) wr w2 := by rw [hw2]; exact (Upd.refl _ wr).alloc _
      have g2 : w2.heap[wr.heap.size]? = some (.cells x.cs.toArray 37 (0, 0)) := by rw [hw2, hcs]; exact heap_alloc_last wr _ rfl
      obtain ⟨q, hq⟩ : ∃ q, q = wr.heap.size := ⟨_, rfl⟩
      rw [← hq] at g2
      have e2 : w2.cell? ⟨q, 0, none⟩ = some (.int .i64 x.b) := cell_of_block g2 0
      have r2 := range_of_block g2
      rw [← hcs] at r2
      have hm2 := hm.keep hu2 (fun h => h)
      have hlk := hm2.look EI.enc_inj Tryz.underlying114 (zeroEnt w2) hin.1.1 hin.1.2
      obtain ⟨y, hy⟩ : ∃ y, y = (apM (l.take k) x.b).getD EI.zero := ⟨_, rfl⟩
      obtain ⟨ok, hok⟩ : ∃ ok, ok = (apM (l.take k) x.b).isSome := ⟨_, rfl⟩
      rw [← hy, ← hok] at hlk
      rw [← hok] at hn1 hn2
      unfold EI.enc at hlk
      have hy1 := y.one
      have hyl : y.cs.length = 4 := rfl
      obtain ⟨ys, hys⟩ : ∃ ys, ys = y.cs := ⟨_, rfl⟩
      rw [← hys] at hlk hy1 hyl
      have hb2 := hb.trans ((Upd.below hu2).mono hb.size)
      have hcl : cs.length = 4 := by rw [hcs]; rfl
      have hc1 : ∀ v ∈ cs, v.oneCell' = true := by rw [hcs]; exact x.one
      have hci : (Tryz.prog.info? 37).map (·.size) = some cs.length := by rw [hcl]; exact infoTh4
      have hyi : (Tryz.prog.info? 37).map (·.size) = some ys.length := by rw [hyl]; exact infoTh4
      have HX := Lib.hid (And.intro hcl (And.intro hci (And.intro hc1 r2)))
      have HY := Lib.hid (And.intro hyl (And.intro hyi (And.intro hy1 hys)))
      have HW2 := Lib.hid (And.intro hw2 (And.intro hq hcs))
      have HK := Lib.hid (And.intro hm2 (And.intro hb2 (And.intro hnx (And.intro hn1 (And.intro hn2 (And.intro hin hnd))))))
      clear hm hnd hb hcell hx hin hnx hn1 hn2 hxx hcs hw2 hu2 g2 hq r2 hm2 hy hok hy1 hyl hys hb2 hcl hc1 hci hyi hgl
      go_wp2_with (first
        | (refine wpList_load_mid rfl 37 _ rfl _ _ rfl _ _ hrow Tryz.underlying37 rfl HX.out.2.1 ?_)
        | (refine wpList_store_new rfl _ _ _ rfl _ _ cs rfl rfl (by rw [HX.out.1]; rfl) HX.out.2.1 HX.out.2.2.1 ?_; refine Stop.i ?_)
        | fail)
      rw [← HW2.out.1, ← HW2.out.2.1]
      unfold Stop
      clear hrow
      go_wp2_with (first
        | (refine wpList_store_new rfl _ _ _ rfl _ _ ys rfl rfl (by rw [HY.out.1]; rfl) HY.out.2.1 HY.out.2.2.1 ?_; refine Stop.i ?_)
        | fail)
      obtain ⟨w3, hw3⟩ : ∃ w3, w3 = w2.alloc (.cells ys.toArray 37) := ⟨_, rfl⟩
      rw [← hw3]
      have hu3 : Upd (fun _ => False) w2 w3 := by rw [hw3]; exact (Upd.refl _ w2).alloc _
      clear hlk
      have e3 := hu3.cellv e2 (fun h => h)
      have r3 := hu3.range HX.out.2.2.2 (fun h => h)
      have hm3 := HK.out.1.keep hu3 (fun h => h)
      have hb3 := HK.out.2.1.trans ((Upd.below hu3).mono HK.out.2.1.size)
      clear e2
      cases ok with
      | true =>
        have HR := Lib.hid (And.intro hb3 (HK.out.2.2.2.2.1 rfl))
        clear hm3 hb3 hu3 hw3
        unfold Stop
        go_wp2_with fail
        refine bodyPost_ret (v := .tuple #[.slice none 0 0, .int .i64 12]) (by simp [results, Tryz.results12, go_sem]) rfl ?_
        exact ⟨_, [], 12, rfl, Sl.nil _ _ _, From.nil _ _ _, HR.out.1, .inl ⟨rfl, rfl, .inl HR.out.2⟩⟩
      | false =>
        obtain ⟨w4, hst, hm4, hu4, z4⟩ := hm3.store EI.enc_inj Tryz.underlying114 HK.out.2.2.2.2.2.1.1.1 HK.out.2.2.2.2.2.1.1.2 x (show k < maxLen by unfold maxLen; omega)
        unfold EI.enc at hst
        rw [← HW2.out.2.2] at hst
        have hMlt := HK.out.1.lt
        have hb4 : Below w.heap.size w w4 := below_upd hb3 hu4 (Nat.le_refl _) (fun j hj => by rw [hj, HW.out.2]; exact Nat.le_refl _)
        have HR := Lib.hid (And.intro hm4 (And.intro hb4 (HK.out.2.2.2.1 rfl)))
        clear hm3 hb3 hu3 hw3 hm4 hu4 z4 hb4
        unfold Stop
        go_wp2_with (first
          | (refine wpList_load_mid rfl 37 _ rfl _ _ rfl _ _ r3 Tryz.underlying37 rfl HX.out.2.1 ?_)
          | fail)
        go_roundg (gk - 1)
        case measure => omega
        case rel =>
          refine ⟨k + 1, by omega, by go_num, ?_, HR.out.2.2, HR.out.2.1⟩
          rw [HK.out.2.2.1]
          exact HR.out.1
    · obtain rfl : k = l.length := by omega
      have k1 : ¬ ((l.length : Int) < (l.length : Int)) := by omega
      rw [List.take_of_length_le (Nat.le_refl _)] at hm hnd
      have hM := HW.out.2
      obtain ⟨wA, hwA⟩ : ∃ wA : World, wA = wr := ⟨_, rfl⟩
      rw [← hwA] at hm hb ⊢
      have H1 := Lib.hid (And.intro hm (And.intro hnd hb))
      clear hm hnd hb hM hwA hk
      go_wp2_with fail
      obtain ⟨gk1, hgk1⟩ : ∃ x, x = gk := ⟨_, rfl⟩
      clear hgk1
      go_loopg [39] rs.length (fun gk s39 wr => ∃ k : Nat, k + gk = rs.length ∧ s39 = .int .i64 (k : Int) ∧ MapG EI.enc wr M (l.length + k) (apRs (apM l) (rs.take k)) ∧ Below w.heap.size w wr)
      case atStart => exact ⟨0, by omega, rfl, H1.out.1, H1.out.2.2⟩
      case round =>
        obtain ⟨k, hk, rfl, hm, hb⟩ := hrel
        by_cases hlt2 : k < rs.length
        · have k2 : (k : Int) < (rs.length : Int) := by omega
          have k0 : (0 : Int) ≤ (k : Int) := by omega
          obtain ⟨g, o, cp, e, hgl, hcell⟩ := H.out.2.1.at (by omega)
          cases e
          have hx := flat_row (enc := dsR) (m := 7) (fun _ => rfl) hcell hlt2
          have hin := H.out.2.2.2.1 _ (List.getElem_mem hlt2)
          have hnx := apRs_take (apM l) rs hlt2
          obtain ⟨x, hxx⟩ : ∃ x, x = rs[k] := ⟨_, rfl⟩
          rw [← hxx] at hx hin hnx
          have hrow : wr.rangeAt g (o + k * 7) (dsR x) := Below.range hb hx
          obtain ⟨cs, hcs⟩ : ∃ cs, cs = dsR x := ⟨_, rfl⟩
          rw [← hcs] at hrow
          obtain ⟨w2, hw2⟩ : ∃ w2, w2 = wr.alloc (.cells cs.toArray 101) := ⟨_, rfl⟩
          have hu2 : Upd (fun _ => False) wr w2 := by rw [hw2]; exact (Upd.refl _ wr).alloc _
          have g2 : w2.heap[wr.heap.size]? = some (.cells (dsR x).toArray 101 (0, 0)) := by rw [hw2, hcs]; exact heap_alloc_last wr _ rfl
          obtain ⟨q, hq⟩ : ∃ q, q = wr.heap.size := ⟨_, rfl⟩
          rw [← hq] at g2
          have e2 : w2.cell? ⟨q, 2, none⟩ = some (.int .i64 (x.getD 2 0)) := cell_of_block g2 2
          have e3 : w2.cell? ⟨q, 3, none⟩ = some (.int .i64 (x.getD 3 0)) := cell_of_block g2 3
          have e4 : w2.cell? ⟨q, 4, none⟩ = some (.int .i64 (x.getD 4 0)) := cell_of_block g2 4
          have e5 : w2.cell? ⟨q, 5, none⟩ = some (.bool (x.getD 5 0 == 1)) := cell_of_block g2 5
          have e6 : w2.cell? ⟨q, 6, none⟩ = some (.int .i64 (x.getD 6 0)) := cell_of_block g2 6
          obtain ⟨kd, hkd⟩ : ∃ y, y = x.getD 2 0 := ⟨_, rfl⟩
          obtain ⟨xb, hxb⟩ : ∃ y, y = x.getD 3 0 := ⟨_, rfl⟩
          obtain ⟨xs, hxs⟩ : ∃ y, y = x.getD 4 0 := ⟨_, rfl⟩
          obtain ⟨xd, hxd⟩ : ∃ y, y = (x.getD 5 0 == 1) := ⟨_, rfl⟩
          obtain ⟨xm, hxm⟩ : ∃ y, y = x.getD 6 0 := ⟨_, rfl⟩
          rw [← hkd] at e2
          rw [← hxb] at e3 hin
          rw [← hxs] at e4
          rw [← hxd] at e5
          rw [← hxm] at e6
          have hre : recE x = ⟨xb, xs, xd, xm⟩ := by rw [hxb, hxs, hxd, hxm]; rfl
          have hap : apR (apRs (apM l) (rs.take k)) x = fun s => if s = xb then (if kd = 0 then some ⟨xb, xs, xd, xm⟩ else none) else (apRs (apM l) (rs.take k)) s := by
            unfold apR; rw [hre, ← hxb, ← hkd]
          have hm2 := hm.keep hu2 (fun h => h)
          have hb2 := hb.trans ((Upd.below hu2).mono hb.size)
          have hcl : cs.length = 7 := by rw [hcs]; rfl
          have hc1 : ∀ v ∈ cs, v.oneCell' = true := by rw [hcs]; exact dsR_one x
          have hci : (Tryz.prog.info? 101).map (·.size) = some cs.length := by rw [hcl]; exact infoThR
          have HX := Lib.hid (And.intro hcl (And.intro hci hc1))
          have HW2 := Lib.hid (And.intro hw2 hq)
          rw [hap] at hnx
          have HK := Lib.hid (And.intro hm2 (And.intro hb2 (And.intro hnx hin)))
          clear hm hb hcell hx hin hnx hxx hcs hw2 hu2 g2 hq hm2 hb2 hcl hc1 hci hgl hre hap hkd hxb hxs hxd hxm
          go_wp2_with (first
            | (refine wpList_load_mid rfl 101 _ rfl _ _ rfl _ _ hrow Tryz.underlying101 rfl HX.out.2.1 ?_)
            | (refine wpList_store_new rfl _ _ _ rfl _ _ cs rfl rfl (by rw [HX.out.1]; rfl) HX.out.2.1 HX.out.2.2 ?_; refine Stop.i ?_)
            | fail)
          rw [← HW2.out.1, ← HW2.out.2]
          clear hrow
          by_cases hz : kd = 0
          · obtain ⟨w4, hst, hm4, hu4, z4⟩ := HK.out.1.store EI.enc_inj Tryz.underlying114 HK.out.2.2.2.1.1 HK.out.2.2.2.1.2 ⟨xb, xs, xd, xm⟩ (show l.length + k < maxLen by unfold maxLen; omega)
            have hst' : (Instr.mapUpdate 114 (.map (some M)) (.int .i64 xb) (.agg #[.int .i64 xb, .int .i64 xs, .bool xd, .int .i64 xm])).run Tryz.prog w2 = .ok () w4 := hst
            have hb4 : Below w.heap.size w w4 := below_upd HK.out.2.1 hu4 (Nat.le_refl _) (fun j hj => by rw [hj, HW.out.2]; exact Nat.le_refl _)
            have hnx := HK.out.2.2.1
            simp only [if_pos hz] at hnx
            have hbe := buildE xb xs xd xm w2
            have HR := Lib.hid (And.intro hm4 (And.intro hb4 hnx))
            clear hm4 hu4 z4 hb4 hst hnx
            subst hz
            unfold Stop
            go_wp2_with fail
            go_roundg (gk - 1)
            case measure => omega
            case rel =>
              refine ⟨k + 1, by omega, by go_num, ?_, HR.out.2.1⟩
              rw [HR.out.2.2]
              exact HR.out.1
          · obtain ⟨w4, hst, hm4, hu4, z4⟩ := HK.out.1.drop Tryz.underlying114 HK.out.2.2.2.1.1 HK.out.2.2.2.1.2 0
            have hb4 : Below w.heap.size w w4 := below_upd HK.out.2.1 hu4 (Nat.le_refl _) (fun j hj => by rw [hj, HW.out.2]; exact Nat.le_refl _)
            have hnx := HK.out.2.2.1
            simp only [if_neg hz] at hnx
            have HR := Lib.hid (And.intro hm4 (And.intro hb4 hnx))
            clear hm4 hu4 z4 hb4 hnx
            unfold Stop
            go_wp2_with fail
            go_roundg (gk - 1)
            case measure => omega
            case rel =>
              refine ⟨k + 1, by omega, by go_num, ?_, HR.out.2.1⟩
              rw [HR.out.2.2]
              exact HR.out.1.mono (by omega)
        · obtain rfl : k = rs.length := by omega
          have k2 : ¬ ((rs.length : Int) < (rs.length : Int)) := by omega
          rw [List.take_of_length_le (Nat.le_refl _)] at hm
          have hmm := @run_makeMap Tryz.prog
          obtain ⟨M2, hM2⟩ : ∃ M2, M2 = wr.heap.size := ⟨_, rfl⟩
          obtain ⟨w5, hw5⟩ : ∃ w5, w5 = wr.alloc (.map #[] 0) := ⟨_, rfl⟩
          have hu5 : Upd (fun _ => False) wr w5 := by rw [hw5]; exact (Upd.refl _ wr).alloc _
          have hm5 : MapC (Value.int .i64) w5 M2 0 (takenF []) 0 := by rw [hw5, hM2]; exact MapC.made wr
          have hm6 := hm.keep hu5 (fun h => h)
          have hm6x := hm6
          rw [hw5] at hm6x
          have hb5 := hb.trans ((Upd.below hu5).mono hb.size)
          have hlt5 : M2 < w5.heap.size := hm5.g.lt
          have z5 : w5.heap.size = M2 + 1 := by rw [hw5, hM2]; simp
          have hMs : M < M2 := by have := hm.lt; omega
          have HW5 := Lib.hid (And.intro hw5 hM2)
          have H2 := Lib.hid (And.intro hm5 (And.intro hm6 (And.intro hb5 (And.intro hMs z5))))
          have HRx := Lib.hid hm6x
          clear hm hb hw5 hu5 hm5 hm6 hb5 hlt5 hMs hM2 hk hm6x z5
          go_wp2_with (first
            | (at_range; refine wpList_range_G rfl _ 114 rfl Tryz.underlying114 rfl HRx.out ?_; intro w6 hrg hu6 z6; refine Stop.i ?_)
            | fail)
          rw [← HW5.out.1] at hrg hu6 z6
          try rw [← HW5.out.1]
          rw [H2.out.2.2.2.2] at hrg z6
          rw [← HW5.out.2]
          obtain ⟨cnt, hcN, hrg⟩ := hrg
          obtain ⟨F, hF⟩ : ∃ F, F = apRs (apM l) rs := ⟨_, rfl⟩
          have hFb : AtB F := by rw [hF]; exact apRs_at rs _ (apM_at l)
          have hFi : ∀ s e, F s = some e → I64 e.b ∧ I64 e.s := by
            rw [hF]
            exact apRs_all (p := fun e => I64 e.b ∧ I64 e.s) H.out.2.2.1 (fun r hr => H.out.2.2.2.1 r hr)
          rw [← hF] at hrg
          have hRM : M2 + 1 = M2 + 1 := rfl
          have hb6 : Below w.heap.size w w6 := H2.out.2.2.1.trans ((Upd.below hu6).mono H2.out.2.2.1.size)
          have hmc6 := H2.out.1.keep hu6 (fun h => h)
          have H3 := Lib.hid (And.intro hF (And.intro hFb (And.intro hFi (And.intro hRM (And.intro hb6 (And.intro hmc6 (And.intro hcN (And.intro hrg H2.out.2.2.2.1))))))))
          clear hF hFb hFi hRM hb6 hmc6 hcN hrg hu6 z6 hmm
          unfold Stop
          go_wp2_with fail
          obtain ⟨gk2, hgk2⟩ : ∃ x, x = gk := ⟨_, rfl⟩
          clear hgk2
          go_loopg [14] cnt (fun gk s14 wr => ∃ (L : List EI) (left : Int → Bool) (c : Nat), L.length + gk ≤ cnt ∧ RngG EI.enc wr M (M2 + 1) (l.length + rs.length) F left gk ∧ MapC (Value.int .i64) wr M2 L.length (takenF L) c ∧ c ≤ L.length ∧ (c = L.length ↔ (L.map EI.s).Nodup) ∧
            Sl wr 37 4 s14 L.length (L.flatMap EI.cs) ∧ From (M2 + 2) s14 ∧ Below w.heap.size w wr ∧ (L.map EI.b).Nodup ∧ ∀ e, e ∈ L ↔ F e.b = some e ∧ left e.b = false)
          case atStart => exact ⟨[], _, 0, by simp, H3.out.2.2.2.2.2.2.2.1, H3.out.2.2.2.2.2.1, Nat.le_refl _, by simp, Sl.nil _ _ _, From.nil _ _ _, H3.out.2.2.2.2.1, List.nodup_nil, fun e => ⟨fun h => (by cases h), fun h => (by have h1 := h.2; rw [h.1] at h1; cases h1)⟩⟩
          case round =>
            obtain ⟨L, left, c, hLg, hrg, hmc, hc1, hc2, hsl, hf, hb, hLb, hLm⟩ := hrel
            have HL := Lib.hid (And.intro hLg (And.intro hmc (And.intro hc1 (And.intro hc2 (And.intro hsl (And.intro hf (And.intro hb (And.intro hLb (And.intro hLm hrg)))))))))
            clear hLg hmc hc1 hc2 hsl hf hb hLb hLm
            go_wp2_with (first
              | (at_next; refine wpList_next_G rfl _ rfl rfl hrg (fun hl0 => Stop.i ?_) (fun x en w7 hlx hfx hcc hu7 hs7 hen => Stop.i ?_))
              | fail)
            · obtain ⟨hLg, hmc, hcl, hc2, hsl, hf, hb, hLb, hLm, -⟩ := HL.out
              clear hrg
              obtain ⟨ao3, cc3, rfl⟩ := hsl.rd.nil_iff
              have hLi : Lists F L := ⟨hLb, fun e => (hLm e).trans ⟨fun h => h.1, fun h => ⟨h, hl0 _⟩⟩⟩
              have hlen := hmc.len Tryz.underlying116 3
              have hLN : L.length ≤ 131072 := by have := H3.out.2.2.2.2.2.2.1; omega
              have HSo := Lib.hid (sort_ents hsl (by omega))
              have hMw : M = w.heap.size := HW.out.2
              have hMM := H3.out.2.2.2.2.2.2.2.2
              have hFw : From w.heap.size (.slice ao3 L.length cc3) := hf.mono (by omega)
              have HE := Lib.hid (And.intro hLi (And.intro hc2 (And.intro hFw (And.intro hb hLb))))
              have HcL := Lib.hid hcl
              clear hLg hmc hcl hc2 hsl hf hb hLb hLm hl0 hMw hMM hFw hLi
              unfold Stop
              by_cases hcc : c = L.length
              · have HCC := Lib.hid hcc
                have hci : ((c : Nat) : Int) = (L.length : Int) := by rw [hcc]
                clear hcc
                go_wp2_with fail
                refine HSo.out.mono ?_
                rintro e w9 ⟨rfl, L', hp, hs, sl9, hu9⟩
                have hb9 : Below w.heap.size w w9 := below_upd HE.out.2.2.2.1 hu9 (Nat.le_refl _) (fun j hj => HE.out.2.2.1 j hj)
                have HFin := Lib.hid (And.intro hp (And.intro hs (And.intro sl9 hb9)))
                clear hp hs sl9 hu9 hb9
                go_wp2_with fail
                refine bodyPost_ret (v := .tuple #[.slice ao3 L.length cc3, .int .i64 0]) (by simp [results, Tryz.results12, go_sem]) rfl ?_
                obtain ⟨hp, hs, sl9, hb9⟩ := HFin.out
                have hpl := hp.length_eq
                refine ⟨_, L', 0, rfl, by rw [hpl]; exact sl9, HE.out.2.2.1, hb9, .inr ⟨rfl, H1.out.2.1, ?_, ?_, strict_of hp HE.out.2.2.2.2 hs⟩⟩
                · rw [← H3.out.1]; exact lists_perm HE.out.1 hp
                · exact (hp.map EI.s).nodup_iff.2 (HE.out.2.1.1 HCC.out)
              · have HCC := Lib.hid hcc
                have hci : ¬ ((c : Nat) : Int) = (L.length : Int) := by omega
                clear hcc
                go_wp2_with fail
                refine bodyPost_ret (v := .tuple #[.slice none 0 0, .int .i64 12]) (by simp [results, Tryz.results12, go_sem]) rfl ?_
                exact ⟨_, [], 12, rfl, Sl.nil _ _ _, From.nil _ _ _, HE.out.2.2.2.1, .inl ⟨rfl, rfl, .inr ⟨L, by rw [← H3.out.1]; exact HE.out.1, fun h => HCC.out (HE.out.2.1.2 h)⟩⟩⟩
            · clear hrg
              obtain ⟨cnt', hc', hrg1⟩ := hcc
              have heb := H3.out.2.1 x en hfx
              have hei := (H3.out.2.2.1 x en hfx).2
              have hen1 := en.one
              unfold EI.enc at hen ⊢
              obtain ⟨cs, hcs⟩ : ∃ cs, cs = en.cs := ⟨_, rfl⟩
              rw [← hcs] at hen hen1
              rw [← hcs]
              obtain ⟨w8, hw8⟩ : ∃ w8, w8 = w7.alloc (.cells cs.toArray 37) := ⟨_, rfl⟩
              have hu8 : Upd (fun _ => False) w7 w8 := by rw [hw8]; exact (Upd.refl _ w7).alloc _
              have g8 : w8.heap[w7.heap.size]? = some (.cells en.cs.toArray 37 (0, 0)) := by rw [hw8, hcs]; exact heap_alloc_last w7 _ rfl
              obtain ⟨q, hq⟩ : ∃ q, q = w7.heap.size := ⟨_, rfl⟩
              rw [← hq] at g8
              have e8 : w8.cell? ⟨q, 1, none⟩ = some (.int .i64 en.s) := cell_of_block g8 1
              have r8 := range_of_block g8
              rw [← hcs] at r8
              obtain ⟨hLg, hmc, hcl, hc2, hsl, hf, hb, hLb, hLm, hrg⟩ := HL.out
              have hMM := H3.out.2.2.2.2.2.2.2.2
              have hRlt := hrg1.lt.2
              have hmc8 := (hmc.keep hu7 (by omega)).keep hu8 (fun h => h)
              have hlk := hmc8.g.look1 (enc := Value.int .i64) (fun x y h => by injection h) Tryz.underlying116 (z0 := 0) (zeroI w8) hei.1 hei.2
              rw [takenF_getD] at hlk
              have hkl := cntS_le L en.s
              obtain ⟨kc, hkc⟩ : ∃ kc, kc = cntS L en.s := ⟨_, rfl⟩
              rw [← hkc] at hlk hkl
              have hLN : L.length ≤ 131072 := by have := H3.out.2.2.2.2.2.2.1; omega
              have hwr : IntKind.i64.wrap ((kc : Int) + 1) = (kc : Int) + 1 := IntWalk.i64_in _ (by omega)
              obtain ⟨w9, hst, hmc9, hu9, z9⟩ := hmc8.store (enc := Value.int .i64) (fun x y h => by injection h) Tryz.underlying116 hei.1 hei.2 ((kc : Int) + 1) (show L.length < maxLen by unfold maxLen; omega)
              have hqM : q ≠ M2 := by omega
              have r9 := hu9.range r8 hqM
              have hsl8 := (hsl.keep hu7 (fun g hg h => by have := hf g hg; omega)).keep hu8 (fun _ _ h => h)
              have hsl9 := hsl8.keep hu9 (fun g hg h => by have := hf g hg; omega)
              have hcnt := cnt_step en hcl hc2
              have hstep := lists_step hfx heb hlx hLb hLm
              have htk := takenF_snoc L en
              rw [← hkc] at htk
              have hb9 : Below w.heap.size w w9 := below_upd (below_upd (below_upd hb hu7 (Nat.le_refl _) (fun j hj => by have := HW.out.2; omega)) hu8 (Nat.le_refl _) (fun j hj => hj.elim)) hu9 (Nat.le_refl _) (fun j hj => by have := HW.out.2; omega)
              have hrg9 := (hrg1.keep hu8 (fun h => h) (fun h => h)).keep hu9 (show ¬ M = M2 by omega) (show ¬ M2 + 1 = M2 by omega)
              have hcs4 : cs.length = 4 := by rw [hcs]; rfl
              have hci : (Tryz.prog.info? 37).map (·.size) = some cs.length := by rw [hcs4]; exact infoTh4
              have z9' : M2 + 2 ≤ w9.heap.size := by have := hrg9.lt.2; omega
              rw [← htk] at hmc9
              obtain ⟨ie, ze, hie, hze, hz4, hi4, hi32⟩ := infoEnt4
              have HI := Lib.hid (And.intro hie (And.intro hze (And.intro hz4 (And.intro hi4 hi32))))
              have hm1 : Hid (L.length + 1 ≤ maxLen) := by show _ ≤ _; unfold maxLen; omega
              have hm2 : Hid ((L.length + 1) * 32 ≤ 140737488355328) := by show _ ≤ _; omega
              have HX := Lib.hid (And.intro hcs4 (And.intro hci (And.intro hen1 hcs)))
              have HW8 := Lib.hid (And.intro hw8 hq)
              have HB := Lib.hid (And.intro hsl9 (And.intro hf (And.intro hb9 (And.intro hrg9 (And.intro hmc9 (And.intro hcnt (And.intro hstep (And.intro z9' (And.intro hLg hc')))))))))
              clear hLg hmc hcl hc2 hsl hf hb hLb hLm hrg hRlt hmc8 hkc hu9 z9 hqM hsl8 hsl9 hcnt hstep htk hb9 hrg9 hrg1 hc' hcs4 hci z9' hmc9 hie hze hz4 hi4 hi32 hen1 hcs hw8 hq hu8 g8 hu7 hs7 heb hei hlx hfx hMM r8
              unfold Stop
              go_wp2_with (first
                | (refine wpList_store_new rfl _ _ _ rfl _ _ cs rfl rfl (by rw [HX.out.1]; rfl) HX.out.2.1 HX.out.2.2.1 ?_; refine Stop.i ?_)
                | fail)
              rw [← HW8.out.1, ← HW8.out.2]
              unfold Stop
              go_wp2_with (first
                | (refine wpList_load_mid rfl 37 _ rfl _ _ rfl _ _ r9 Tryz.underlying37 rfl HX.out.2.1 ?_)
                | (refine wpList_row rfl 22 37 _ rfl 4 (by decide) Tryz.underlying22 ⟨ie, ze, HI.out.1, HI.out.2.1, HI.out.2.2.1, HI.out.2.2.2.1⟩ (by decide) cs rfl HX.out.1 ?_)
                | (at_builtin; refine wpList_append_one rfl _ _ 22 rfl ie ze 32 Tryz.underlying22 HI.out.1 HI.out.2.1 HI.out.2.2.2.1 HI.out.2.2.2.2 HI.out.2.2.1 (by decide) rfl HB.out.1 cs rfl HX.out.1 HX.out.2.2.1 hm1.out hm2.out ?_; intro v' w10 hs10 hu10 hb10; obtain ⟨ao', cc', rfl⟩ := hs10.rd.nil_iff; refine Stop.i ?_)
                | fail)
              unfold Stop
              have hu10' : Upd (ownS u14) w9 w10 := hu10
              have hb10' : blockFrom w9 u14 (.slice ao' (L.length + 1) cc') := hb10
              clear hu10 hb10
              have hf9 : From (M2 + 2) (.slice ao' (L.length + 1) cc') := hb10'.ge HB.out.2.2.2.2.2.2.2.1 HB.out.2.1
              have hrg10 := HB.out.2.2.2.1.keep hu10' (fun h => by have := HB.out.2.1 _ h; have := H3.out.2.2.2.2.2.2.2.2; omega) (fun h => by have := HB.out.2.1 _ h; omega)
              have hmc10 := HB.out.2.2.2.2.1.keep hu10' (fun h => by have := HB.out.2.1 _ h; omega)
              have hb10 : Below w.heap.size w w10 := below_upd HB.out.2.2.1 hu10' (Nat.le_refl _) (fun j hj => by have := HB.out.2.1 _ hj; have := HW.out.2; have := H3.out.2.2.2.2.2.2.2.2; omega)
              have hs10' : Sl w10 37 4 (.slice ao' (L.length + 1) cc') (L ++ [en]).length ((L ++ [en]).flatMap EI.cs) := by
                simp only [List.length_append, List.flatMap_append, List.flatMap_cons, List.flatMap_nil, List.append_nil, List.length_cons, List.length_nil]
                rw [← HX.out.2.2.2]
                exact hs10
              have HN := Lib.hid (And.intro hf9 (And.intro hrg10 (And.intro hmc10 (And.intro hb10 hs10'))))
              clear hf9 hrg10 hmc10 hb10 hs10' hs10 hu10' hb10' hst hlk hen r9 e8 hwr
              go_wp2_with fail
              go_roundg cnt'
              case measure => exact HB.out.2.2.2.2.2.2.2.2.2
              case rel =>
                refine ⟨L ++ [en], _, _, ?_, HN.out.2.1, ?_, HB.out.2.2.2.2.2.1.1, HB.out.2.2.2.2.2.1.2, HN.out.2.2.2.2, HN.out.1, HN.out.2.2.2.1, HB.out.2.2.2.2.2.2.1.1, HB.out.2.2.2.2.2.2.1.2⟩
                · have h1 := HB.out.2.2.2.2.2.2.2.2.1
                  have h2 := HB.out.2.2.2.2.2.2.2.2.2
                  simp only [List.length_append, List.length_cons, List.length_nil]
                  omega
                · simp only [List.length_append, List.length_cons, List.length_nil]
                  exact HN.out.2.2.1
end Go.Proofs.YtfhfbpmlnjdfoaaGreatDoor
namespace Go.Proofs.YtfhfbpmlnjdfoaaGreatDoor
open Go Go.RowKit
def RowOut (X : Int → World → Prop) (R : World → Prop) (e : Ending) (w' : World) : Prop := ∃ c : Int, e = .returned (.int .i64 c) ∧ (c = 0 → R w') ∧ (c ≠ 0 → X c w')
set_option maxRecDepth 100000 in
theorem arow {g n : Nat} (hn : n ≤ 100) (fd : Nat → Nat) (fi ca : Nat → Array Value) (R : Nat → World → Prop) (X : Int → World → Prop)
    (hc : ∀ k, k < n → ∀ W, R k W → W.cell? ⟨g, k, none⟩ = some (.func (.func (fd k)) (fi k) (ca k)))
    (he : ∀ k, k < n → ∀ args W, (callFunc (fd k) args).run Tryz.prog W = .ok (.enter (fd k) args) W)
    (hs : ∀ k, k < n → ∀ W, R k W → Calls Tryz.prog (fd k) (fi k ++ ca k) W (RowOut X (R (k + 1))))
    {w : World} (h0 : R 0 w) : Calls Tryz.prog 61 #[.slice (some ⟨g, 0, none⟩) n n] w (RowOut X (R n)) := by
  have H := Lib.hid (And.intro hc (And.intro hs h0))
  have HE := Lib.hid he
  clear hc he hs h0
  go_enter Tryz.func61, Tryz.ntmps61
  go_wp2
  go_step3
  go_wp2
  go_step3
  go_wp2_with fail
  go_loopg [3, 8] n (fun gk s3 s8 wr => ∃ k : Nat, k + gk = n ∧ s8 = .int .i64 (k : Int) ∧ s3 = .int .i64 0 ∧ R k wr)
  case atStart => exact ⟨0, by omega, rfl, rfl, H.out.2.2⟩
  case round =>
    obtain ⟨k, hk, rfl, rfl, hS⟩ := hrel
    by_cases hlt : k < n
    · have k1 : (k : Int) < (n : Int) := by omega
      have k0 : (0 : Int) ≤ (k : Int) := by omega
      have cg := H.out.1 k hlt wr hS
      have HC := Lib.hid (H.out.2.1 k hlt wr hS)
      have hent := HE.out k hlt
      clear hS
      obtain ⟨fk, hfk⟩ : ∃ fk, fk = fd k := ⟨_, rfl⟩
      obtain ⟨ik, hik⟩ : ∃ ik, ik = fi k := ⟨_, rfl⟩
      obtain ⟨ck, hck⟩ : ∃ ck, ck = ca k := ⟨_, rfl⟩
      rw [← hfk, ← hik, ← hck] at cg HC
      rw [← hfk] at hent
      clear hfk hik hck
      go_wp2_with fail
      refine HC.out.mono ?_
      rintro e w2 ⟨c, rfl, hr, hx⟩
      clear HC cg hent
      by_cases hc0 : c = 0
      · subst hc0
        have HS2 := Lib.hid (hr rfl)
        clear hr hx
        go_wp2_with fail
        go_roundg (gk - 1)
        case measure => omega
        case rel => exact ⟨k + 1, by omega, by go_num, rfl, HS2.out⟩
      · have q0 : (c == 0) = false := by simpa using hc0
        have HZ := Lib.hid (And.intro hc0 (hx hc0))
        clear hr hx hc0
        go_wp2_with fail
        try rw [Exit.noGoto_ret]
        go_ret
        exact ⟨c, rfl, fun h => absurd h HZ.out.1, fun _ => HZ.out.2⟩
    · obtain rfl : k = n := by omega
      have k1 : ¬ ((k : Int) < (k : Int)) := by omega
      have HS2 := Lib.hid hS
      clear hS
      go_wp2_with fail
      try rw [Exit.noGoto_ret]
      go_ret
      exact ⟨0, rfl, fun _ => HS2.out, fun h => absurd rfl h⟩
def sizeN (sl jo pa lo : Nat) : Nat := 1 + 2 * pa + jo + lo + lo + lo + sl
def matchC (F G : List Bk) (z bl : Nat) : Int := if F.length = z ∧ G.length = bl then 0 else 22
set_option maxRecDepth 100000 in
theorem amatch {S T : Nat → Prop} {w : World} {b bb : Nat} {F G : List Bk} {O Q : List (Nat × Bk)} {P R : List Int} (h : Dv S w b F O P) (h' : Dv T w bb G Q R) (id : Int) (bl sl jo pa lo ba : Nat) :
    Calls Tryz.prog 55 #[.agg (superC id bl sl jo pa lo ba).toArray, .agg (layC sl jo pa lo).toArray, .pointer (some ⟨b, 0, none⟩), .pointer (some ⟨bb, 0, none⟩)] w
      fun e w' => e = .returned (.int .i64 (matchC F G (sizeN sl jo pa lo) bl)) ∧ Upd (fun _ => False) w w' := by
  obtain ⟨U, hU⟩ : ∃ U, U = superC id bl sl jo pa lo ba := ⟨_, rfl⟩
  obtain ⟨V, hV⟩ : ∃ V, V = layC sl jo pa lo := ⟨_, rfl⟩
  obtain ⟨w1, hw1⟩ : ∃ w1, w1 = (w.alloc (.cells U.toArray 40)).alloc (.cells V.toArray 43) := ⟨_, rfl⟩
  have hu1 : Upd (fun _ => False) w w1 := by rw [hw1]; exact ((Upd.refl _ w).alloc _).alloc _
  have g1 : w1.heap[w.heap.size]? = some (.cells U.toArray 40) := by
    rw [hw1]; exact (((Upd.refl (fun _ => False) (w.alloc (.cells U.toArray 40))).alloc (.cells V.toArray 43))).blockv (heap_alloc_last w _ rfl)
  have g2 : w1.heap[w.heap.size + 1]? = some (.cells V.toArray 43) := by rw [hw1]; exact heap_alloc_last _ _ (by simp)
  have u1 : w1.cell? ⟨w.heap.size, 1, none⟩ = some (.int .i64 (bl : Int)) := by rw [cell_of_block g1, hU]; simp [superC]
  have v6 : w1.cell? ⟨w.heap.size + 1, 6, none⟩ = some (.int .i64 ((sizeN sl jo pa lo : Nat) : Int)) := by rw [cell_of_block g2, hV]; simp [layC, sizeN]
  have hS1 : ∀ k, Calls Tryz.prog 47 #[.pointer (some ⟨b, 0, none⟩)] (w1.drewN k) fun e w' => e = .returned (.int .i64 (F.length : Int)) ∧ w' = w1.drewN k := fun k => dsize (h.new (hu1.trans ((Upd.refl (fun _ => False) w1).drewN k)))
  have hS2 : ∀ k, Calls Tryz.prog 47 #[.pointer (some ⟨bb, 0, none⟩)] (w1.drewN k) fun e w' => e = .returned (.int .i64 (G.length : Int)) ∧ w' = w1.drewN k := fun k => dsize (h'.new (hu1.trans ((Upd.refl (fun _ => False) w1).drewN k)))
  have HS := Lib.hid (And.intro hS1 hS2)
  have HU := Lib.hid hu1
  have HW := Lib.hid hw1
  obtain ⟨mc, hmc⟩ : ∃ mc, mc = matchC F G (sizeN sl jo pa lo) bl := ⟨_, rfl⟩
  rw [← hU, ← hV, ← hmc]
  unfold matchC at hmc
  generalize sizeN sl jo pa lo = z at *
  generalize F.length = f at *
  generalize G.length = g at *
  have HM := Lib.hid hmc
  clear h h' hS1 hS2 hu1 hw1 g1 g2 hU hV hmc
  go_enter Tryz.func55, Tryz.ntmps55
  go_wp2_with fail
  rw [← HW.out]
  by_cases hf : f = z
  · by_cases hg : g = bl
    · have e : mc = 0 := by rw [HM.out, if_pos ⟨hf, hg⟩]
      subst hf hg e
      go_quiet ((go_at_call 47; (first | with_reducible exact Calls.quiet_of_same (HS.out.1 _) | with_reducible exact Calls.quiet_of_same (HS.out.2 _))))
      have hu := HU.out.trans ((Upd.refl (fun _ => False) w1).drewN nq)
      generalize w1.drewN nq = w2 at *
      go_wp2
      go_ret
      exact ⟨rfl, hu⟩
    · have e : mc = 22 := by rw [HM.out, if_neg (fun h => hg h.2)]
      have q1 : ¬ (g : Int) = (bl : Int) := by omega
      have q2 : ((g : Int) == (bl : Int)) = false := by simpa using q1
      subst hf e
      clear hg
      go_quiet ((go_at_call 47; (first | with_reducible exact Calls.quiet_of_same (HS.out.1 _) | with_reducible exact Calls.quiet_of_same (HS.out.2 _))))
      have hu := HU.out.trans ((Upd.refl (fun _ => False) w1).drewN nq)
      generalize w1.drewN nq = w2 at *
      go_wp2
      go_ret
      exact ⟨rfl, hu⟩
  · have e : mc = 22 := by rw [HM.out, if_neg (fun h => hf h.1)]
    have q1 : ¬ (f : Int) = (z : Int) := by omega
    have q2 : ((f : Int) == (z : Int)) = false := by simpa using q1
    subst e
    clear hf
    go_quiet ((go_at_call 47; (first | with_reducible exact Calls.quiet_of_same (HS.out.1 _) | with_reducible exact Calls.quiet_of_same (HS.out.2 _))))
    have hu := HU.out.trans ((Upd.refl (fun _ => False) w1).drewN nq)
    generalize w1.drewN nq = w2 at *
    go_wp2
    go_ret
    exact ⟨rfl, hu⟩
theorem fmt_mk (p0 : Nat) (s : Int) (y : Bk) (w : World) : Calls Tryz.prog 56 #[.int .i64 s, .agg (bkC y).toArray, .pointer (some ⟨p0, 0, none⟩)] w
    fun e w' => e = .returned (.func (.func 57) #[] #[.pointer (some ⟨p0, 0, none⟩), .pointer (some ⟨w.heap.size, 0, none⟩), .pointer (some ⟨w.heap.size + 1, 0, none⟩)]) ∧
      w' = (w.alloc (.cells #[.int .i64 s] 3)).alloc (.cells (bkC y).toArray 54) := by
  have hmf : ∀ (fn : Fn) (first cap : Array Value) (w : World), (Instr.makeFunc fn first cap).run Tryz.prog w = .ok (.func fn first cap) w := fun _ _ _ _ => rfl
  go_enter Tryz.func56, Tryz.ntmps56
  go_wp2
  go_ret
  simp
set_option maxRecDepth 100000 in
theorem fmt_write {T : Nat → Prop} {w : World} {b p0 p1 p2 : Nat} {F : List Bk} {O : List (Nat × Bk)} {P : List Int} (h : Dv T w b F O P) (hn : ∀ j, w.heap.size ≤ j → T j) (s : Nat) (y : Bk) (hy : y.length = 64)
    (c0 : w.cell? ⟨p0, 0, none⟩ = some (.pointer (some ⟨b, 0, none⟩))) (c1 : w.cell? ⟨p1, 0, none⟩ = some (.int .i64 (s : Int))) (r2 : w.rangeAt p2 0 (bkC y)) (hs : s < F.length) (hO : O.length < 65536) :
    Calls Tryz.prog 57 #[.pointer (some ⟨p0, 0, none⟩), .pointer (some ⟨p1, 0, none⟩), .pointer (some ⟨p2, 0, none⟩)] w (Out T w b (writeR F O P s y)) := by
  have HW := Lib.hid (dwriteR h hn s hs y hy hO)
  have hsi := sizeBk y hy
  clear h hn
  go_enter Tryz.func57, Tryz.ntmps57
  go_wp2_with (first
    | (refine wpList_load_mid rfl _ _ rfl _ _ rfl _ _ r2 Tryz.underlying54 rfl hsi ?_)
    | fail)
  refine HW.out.mono ?_
  rintro e w2 ⟨rfl, hd, hu⟩
  have H2 := Lib.hid (And.intro hd hu)
  obtain ⟨cd, hcd⟩ : ∃ cd, cd = (writeR F O P s y).cd := ⟨_, rfl⟩
  rw [← hcd]
  replace hcd := Lib.hid hcd
  clear hd hu HW c0 c1 r2
  go_wp2
  go_ret
  exact ⟨by rw [← hcd.out]; rfl, H2.out⟩
def zW (k : Nat) : List (Nat × Bk) := (List.range k).map fun i => (i + 1, zB)
theorem zW_snoc (k : Nat) : zW (k + 1) = zW k ++ [(k + 1, zB)] := by simp [zW, List.range_succ]
theorem zW_len (k : Nat) : (zW k).length = k := by simp [zW]
theorem writeR_go (F : List Bk) (O : List (Nat × Bk)) (s : Nat) (y : Bk) : writeR F O [] s y = ⟨F, O ++ [(s, y)], [], 0⟩ := rfl
set_option maxRecDepth 100000 in
theorem fmt_clear {T : Nat → Prop} {w : World} {b pl pd : Nat} {F : List Bk} {O : List (Nat × Bk)} (h : Dv T w b F O []) (hn : ∀ j, w.heap.size ≤ j → T j) (z : Nat) (hz1 : 1 ≤ z)
    (c0 : w.cell? ⟨pd, 0, none⟩ = some (.pointer (some ⟨b, 0, none⟩))) (c5 : w.cell? ⟨pl, 5, none⟩ = some (.int .i64 (z : Int))) (hTl : ¬ T pl) (hTd : ¬ T pd) (hz : z ≤ F.length) (hO : O.length ≤ 50000) :
    Calls Tryz.prog 58 #[.pointer (some ⟨pl, 0, none⟩), .pointer (some ⟨pd, 0, none⟩)] w (Out T w b ⟨F, O ++ zW (z - 1), [], 0⟩) := by
  have hfl := h.good.fl
  obtain ⟨Z, hZ⟩ : ∃ Z, Z = zB := ⟨_, rfl⟩
  have HZ := Lib.hid (buildZ_run Z hZ)
  have HH := Lib.hid (And.intro h (And.intro hn (And.intro c0 (And.intro c5 (And.intro hTl (And.intro hTd hZ))))))
  clear h hn c0 c5 hTl hTd hZ
  go_enter Tryz.func58, Tryz.ntmps58
  go_wp2_with fail
  go_loopg [3] (z - 1) (fun gk s3 wr => ∃ k : Nat, k + gk = z - 1 ∧ s3 = .int .i64 ((k : Int) + 1) ∧ Dv T wr b F (O ++ zW k) [] ∧ Upd T w wr)
  case atStart => exact ⟨0, by omega, by simp, by rw [show zW 0 = [] from rfl, List.append_nil]; exact HH.out.1, Upd.refl _ _⟩
  case round =>
    obtain ⟨k, hk, rfl, hd, hu⟩ := hrel
    obtain ⟨h, hn, c0, c5, hTl, hTd, hZ⟩ := HH.out
    have d0 := hu.cellv c0 hTd
    have d5 := hu.cellv c5 hTl
    by_cases hlt : k + 1 < z
    · have k1 : (k : Int) + 1 < (z : Int) := by omega
      have HW := Lib.hid (dwriteR hd (fun j hj => hn j (Nat.le_trans hu.size hj)) (k + 1) (by omega) Z (by rw [hZ]; exact zB_len) (by rw [List.length_append, zW_len]; omega))
      rw [writeR_go, show ((k + 1 : Nat) : Int) = (k : Int) + 1 by simp] at HW
      have HU := Lib.hid hu
      clear h hn c0 c5 hTl hTd hZ hd hu
      go_wp2_with (first
        | (refine wpList_buildZ rfl rfl HZ.out ?_)
        | fail)
      refine HW.out.mono ?_
      rintro e w2 ⟨rfl, hd2, hu2⟩
      have H2 := Lib.hid (And.intro hd2 (HU.out.trans hu2))
      clear hd2 hu2 HW d0 d5
      go_wp2
      go_roundg (gk - 1)
      case measure => omega
      case rel =>
        obtain ⟨hd2, hu2⟩ := H2.out
        refine ⟨k + 1, by omega, by go_num, ?_, hu2⟩
        have e : O ++ zW (k + 1) = O ++ zW k ++ [(k + 1, Z)] := by rw [zW_snoc, HH.out.2.2.2.2.2.2, List.append_assoc]
        rw [e]; exact hd2
    · obtain rfl : z = k + 1 := by omega
      have k1 : ¬ ((k : Int) + 1 < ((k + 1 : Nat) : Int)) := by omega
      have k2 : ¬ ((k : Int) + 1 < (k : Int) + 1) := by omega
      have HE := Lib.hid (And.intro hd hu)
      clear h hn c0 hTl hTd hZ hd hu d0
      go_wp2_with fail
      go_ret
      exact ⟨rfl, HE.out.1, HE.out.2⟩
set_option maxRecDepth 100000 in
theorem fmt_save {T : Nat → Prop} {w : World} {b pd pl ps : Nat} {F : List Bk} {O : List (Nat × Bk)} (h : Dv T w b F O []) (hn : ∀ j, w.heap.size ≤ j → T j) (hN : Nib w) (_hNT : ¬ T 0) (pa : Nat) (hp1 : 1 ≤ pa) (hp : 1 + pa + pa ≤ F.length) (hO : O.length + pa < 65536)
    (c0 : w.cell? ⟨pd, 0, none⟩ = some (.pointer (some ⟨b, 0, none⟩))) (l0 : w.cell? ⟨pl, 0, none⟩ = some (.int .i64 1)) (s4 : w.cell? ⟨ps, 4, none⟩ = some (.int .i64 (pa : Int))) :
    Calls Tryz.prog 59 #[.pointer (some ⟨pd, 0, none⟩), .pointer (some ⟨pl, 0, none⟩), .pointer (some ⟨ps, 0, none⟩)] w (Out T w b ⟨flushF F (O ++ ckO 1 pa (pagesB 0 [])), [], [], 0⟩) := by
  have HS := psaveR h hn 1 pa 0 0 (by omega) none 0 0 [] rfl (by unfold needN; simpa using hp1) (by omega) hp hO (fun W hW => build_nil 0 (by omega) (hN.below hW))
  have e : saveR F O [] (ckO (1 + 0 * pa) pa (pagesB 0 [])) = ⟨flushF F (O ++ ckO 1 pa (pagesB 0 [])), [], [], 0⟩ := by
    rw [Nat.zero_mul, Nat.add_zero]
    unfold saveR
    have hgo : ∀ (L O : List (Nat × Bk)), wrsR F L O [] = ⟨F, O ++ L, [], 0⟩ := by
      intro L
      induction L with
      | nil => intro O; simp [wrsR]
      | cons x L ih =>
        intro O
        rw [wrsR_yes (by rw [writeR_go]), writeR_go, ih]
        simp
    rw [hgo]
    rfl
  rw [e] at HS
  replace HS := Lib.hid HS
  clear h hn hN _hNT e
  go_enter Tryz.func59, Tryz.ntmps59
  go_wp2_with fail
  refine HS.out.mono ?_
  rintro e w2 ⟨rfl, hd, hu⟩
  have H2 := Lib.hid (And.intro hd hu)
  clear hd hu HS c0 l0 s4
  go_wp2
  go_ret
  exact ⟨rfl, H2.out⟩
def bndS : List (Int × Int) := [(0, 1099511627776), (1, 4096), (1, 1024), (1, 4096), (1, 4096), (1, 4096), (1, 64)]
def mayS (xs : List Int) : Bool := withinB bndS xs
theorem mayS_any {w : World} {gl ol cl gt : Nat} (xs : List Int) (hxl : xs.length = 7) (_hcl : 7 ≤ cl) (_hcm : cl ≤ maxLen) (hB : Bnd w (.func (.func 196) #[] #[.pointer (some ⟨gt, 0, none⟩)]) bndS) (hx : w.rangeAt gl ol (ints xs)) :
    Calls Tryz.prog 196 (#[.slice (some ⟨gl, ol, none⟩) 7 cl] ++ #[.pointer (some ⟨gt, 0, none⟩)]) w fun e w' => e = .returned (.bool (mayS xs)) ∧ Below w.heap.size w w' := by
  obtain ⟨g, h, c, hv, hc, hb⟩ := hB
  cases hv
  exact within_any (cl := cl) bndS xs hc hb hx hxl (by show 7 ≤ 7; decide) (by decide)
theorem mayS_fits {xs : List Int} (hx : xs.length = 7) (h : mayS xs = true) : (∀ x ∈ xs, 0 ≤ x) ∧ Fits (numL [6, 2, 2, 2, 2, 2, 1] xs) := by
  have h1 : withinB bndS xs = true := h
  have a0 := within_atR h1 (i := 0) (by decide) (by omega)
  have a1 := within_atR h1 (i := 1) (by decide) (by omega)
  have a2 := within_atR h1 (i := 2) (by decide) (by omega)
  have a3 := within_atR h1 (i := 3) (by decide) (by omega)
  have a4 := within_atR h1 (i := 4) (by decide) (by omega)
  have a5 := within_atR h1 (i := 5) (by decide) (by omega)
  have a6 := within_atR h1 (i := 6) (by decide) (by omega)
  simp [bndS] at a0 a1 a2 a3 a4 a5 a6
  have hb : ∀ i (h1 : i < xs.length) (h2 : i < [6, 2, 2, 2, 2, 2, 1].length), 0 ≤ xs[i] ∧ xs[i] < 256 ^ [6, 2, 2, 2, 2, 2, 1][i] := by
    intro i hi hi2
    rcases i with _ | _ | _ | _ | _ | _ | _ | i
    all_goals first | (simp at hi2; omega) | (simp; omega)
  refine ⟨fun x hx' => ?_, numL_fits (by rw [hx]; rfl) (by decide) (by decide) hb⟩
  obtain ⟨i, hi, rfl⟩ := List.getElem_of_mem hx'
  exact (hb i hi (by rw [hx] at hi; exact hi)).1
end Go.Proofs.YtfhfbpmlnjdfoaaGreatDoor
