/- What was put with OK is there behind a crash, whatever is kept, and nothing is there that was not put; also where the device fails. -/
import Derived.Test.YtnadilfobmgebaaGreatDoorLL1
import Derived.Deep.LoopGhost
import Derived.Deep.CutRange
import Derived.Deep.CutBlock
namespace Go.Proofs.YtnadilfobmgebaaGreatDoor.logsLasts
open Go Go.RowKit Go.ChangeShapes Go.WideShapes Go.ChangeAt Go.Proofs.YtnadilfobmgebaaGreatDoor
theorem infoBool : (Tryz.prog.info? 4).map (fun i => (i.zero.map (·.cells.size), i.size, i.bytes)) = some (some 1, 1, 1) := by kernel_rfl
set_option maxRecDepth 100000 in
set_option maxHeartbeats 8000000 in
theorem walk (sectors : Int) (vl : Value) (l : List Op17) (bits : Int) (h1 : InR sectors) (h3 : InR bits) (w : World) (hl : Rd w 3 vl l.length (l.map op17C).flatten) (nib : Nib w) (tur : Tur w) :
    Calls Tryz.prog 5 #[.int .i64 sectors, vl, .int .i64 bits] w fun e w' => e = .returned (.bool true) ∧ Below w.heap.size w w' := by
  obtain ⟨ao, cap, rfl⟩ := hl.nil_iff
  have HT := Lib.hid (And.intro nib (And.intro tur (And.intro h1 (And.intro h3 hl))))
  have HAW := Lib.hid (awake17 w nib tur)
  have HRt := Lib.hid (right_any hl)
  unfold InR at h1 h3
  by_cases hr : 1 ≤ sectors ∧ sectors ≤ 12 ∧ rightB l = true ∧ 0 ≤ bits
  · obtain ⟨k, rfl⟩ : ∃ k : Nat, sectors = k := ⟨sectors.toNat, by omega⟩
    obtain ⟨B, rfl⟩ : ∃ B : Nat, bits = B := ⟨bits.toNat, by omega⟩
    obtain ⟨p1, p2, p3, p4⟩ := hr
    have HK : Hid (1 ≤ k ∧ k ≤ 12 ∧ rightB l = true ∧ B < 9223372036854775808) := ⟨by omega, by omega, p3, by omega⟩
    have HO := Lib.hid (opened_ok k (by omega) (by omega) w nib tur)
    rw [p3] at HRt
    clear nib tur h1 h3 hl HAW p3
    go_enter Tryz.func5, Tryz.ntmps5
    go_wp2_with (first
      | (go_at_call 29; refine HRt.out.mono ?_; rintro e w0 ⟨rfl, hw0⟩; rw [hw0]; clear hw0 w0)
      | fail)
    refine HO.out.mono ?_
    rintro e w1 ⟨li, lc, lf, d, S, rfl, hL, hS, hb1⟩
    obtain ⟨w2, hw2⟩ : ∃ w2, w2 = w1.alloc (.cells #[ptr li, ptr lc, ptr lf] 28) := ⟨_, rfl⟩
    obtain ⟨w3, hw3⟩ : ∃ w3, w3 = w2.alloc (.cells (Array.replicate 12 (Value.int .i64 0)) 64) := ⟨_, rfl⟩
    obtain ⟨w4, hw4⟩ : ∃ w4, w4 = w3.alloc (.cells (Array.replicate 108 (Value.bool false)) 66) := ⟨_, rfl⟩
    have u2 : Upd (fun _ => False) w1 w2 := by rw [hw2]; exact (Upd.refl _ w1).alloc _
    have u3 : Upd (fun _ => False) w2 w3 := by rw [hw3]; exact (Upd.refl _ w2).alloc _
    have u4 : Upd (fun _ => False) w3 w4 := by rw [hw4]; exact (Upd.refl _ w3).alloc _
    have g2 : w2.heap[w1.heap.size]? = some (.cells #[ptr li, ptr lc, ptr lf] 28 (0, 0)) := by rw [hw2]; exact heap_alloc_last w1 _ rfl
    have g3 : w3.heap[w2.heap.size]? = some (.cells (Array.replicate 12 (Value.int .i64 0)) 64 (0, 0)) := by rw [hw3]; exact heap_alloc_last w2 _ rfl
    have g4 : w4.heap[w3.heap.size]? = some (.cells (Array.replicate 108 (Value.bool false)) 66 (0, 0)) := by rw [hw4]; exact heap_alloc_last w3 _ rfl
    have U14 := (u2.trans u3).trans u4
    have hL4 := hL.beside (Upd.below U14)
    have gq := (u3.trans u4).blockv g2
    have hfm := FmAt.new (u4.blockv g3)
    have hev := EvAt.new g4
    have s2 : w2.heap.size = w1.heap.size + 1 := by rw [hw2]; simp
    have s3 : w3.heap.size = w1.heap.size + 2 := by rw [hw3]; simp; omega
    have s4 : w4.heap.size = w1.heap.size + 3 := by rw [hw4]; simp; omega
    obtain ⟨q, hq⟩ : ∃ q, q = w1.heap.size := ⟨_, rfl⟩
    rw [← hq] at gq hL4 s2 s3 s4
    rw [s2] at hfm
    rw [s3] at hev
    obtain ⟨S3, hS3⟩ : ∃ S3 : Nat → Prop, S3 = fun j => S j ∧ ¬ (q ≤ j ∧ j < w4.heap.size) := ⟨_, rfl⟩
    rw [← hS3] at hL4
    have hS3b : ∀ j, S3 j → w.heap.size ≤ j ∧ ¬ (q ≤ j ∧ j < q + 3) := fun j hj => by rw [hS3] at hj; exact ⟨hS j hj.1, fun h => hj.2 ⟨h.1, by omega⟩⟩
    have hB4 : Below w.heap.size w w4 := hb1.trans ((Upd.below U14).mono hb1.size)
    have hqw : w.heap.size ≤ q := by rw [hq]; exact hb1.size
    have HLt : Hid (li < q ∧ lc < q ∧ lf < q ∧ 0 < q) := by show _ ∧ _; rw [hq]; exact ⟨hL.i.lt, hL.c.lt, hL.f.lt, hL.nib.lt⟩
    have H4 := Lib.hid (And.intro hL4 (And.intro gq (And.intro hfm (And.intro hev (And.intro hS3b (And.intro hB4 (And.intro hqw s4)))))))
    have HQ := Lib.hid (And.intro hq (And.intro s2 s3))
    have HW := Lib.hid (And.intro hw2 (And.intro hw3 hw4))
    have HAl := Lib.hid (And.intro alloc12 alloc108)
    clear hL hS hb1 u2 u3 u4 g2 g3 g4 U14 hL4 gq hfm hev s2 s3 s4 hS3 hS3b hB4 hqw hq hw2 hw3 hw4 HO p1 p2 p4
    go_wp2_with (first
      | (refine wpList_allocZ rfl 64 rfl _ HAl.out.1 ?_)
      | (refine wpList_allocZ rfl 66 rfl _ HAl.out.2 ?_)
      | fail)
    rw [← HW.out.1, ← HW.out.2.1, ← HW.out.2.2, ← HQ.out.1]
    have hl40 : l.length ≤ 40 := by
      have := HK.out.2.2.1
      unfold rightB at this
      simp at this
      exact this.2
    go_loopg [11] l.length (fun g s11 wr => ∃ (i : Nat) (F : List Bk) (O : List (Nat × Bk)) (P : List Int) (fm : Nat → Nat) (ev : Nat → Nat → Bool), i + g = l.length ∧ s11 = .int .i64 i ∧ L17 S3 wr li lc lf d k F O P ∧ LInv k F O fm ev ∧
      (∀ p ∈ P, p = 0 ∨ p = 1) ∧ P.length ≤ 6 * i ∧ O.length ≤ i ∧ FmAt wr (q + 1) fm ∧ EvAt wr (q + 2) ev ∧ wr.heap[q]? = some (.cells #[ptr li, ptr lc, ptr lf] 28 (0, 0)) ∧ Below w.heap.size w wr)
    case atStart =>
      obtain ⟨hL4, gq, hfm, hev, hS3b, hB4, hqw, s4⟩ := H4.out
      exact ⟨0, _, _, _, _, _, by omega, rfl, hL4, devL_LInv k, by simp, by simp, by simp, hfm, hev, gq, hB4⟩
    case round =>
      obtain ⟨i, F, O, P, fm, ev, hgi, rfl, hL, hV, hPP, hPl, hOl, hfm, hev, hgq, hbr⟩ := hrel
      by_cases hlt : i < l.length
      · obtain ⟨bl, off, cp, he, q0, q1, q2⟩ := op17_at (HT.out.2.2.2.2.below hbr) hlt
        cases he
        have hok : op17OK l[i] = true := by
          have := HK.out.2.2.1
          unfold rightB at this
          simp only [Bool.and_eq_true, List.all_eq_true] at this
          exact this.1 _ (List.getElem_mem hlt)
        unfold op17OK at hok
        simp only [Bool.and_eq_true, decide_eq_true_eq] at hok
        obtain ⟨⟨⟨⟨o1, o2⟩, o3⟩, o4⟩, o5⟩ := hok
        have hblw : bl < w.heap.size := by
          obtain ⟨bl', off', cp', he', r0, -, -⟩ := op17_at HT.out.2.2.2.2 hlt
          cases he'
          have := World.block_lt_of_cell? w _ r0
          simpa using this
        obtain ⟨id, hid⟩ : ∃ id, id = l[i].1 := ⟨_, rfl⟩
        obtain ⟨x, hx⟩ : ∃ x : Nat, (x : Int) = l[i].2.1 := ⟨l[i].2.1.toNat, by omega⟩
        obtain ⟨z, hz⟩ : ∃ z : Nat, (z : Int) = l[i].2.2 := ⟨l[i].2.2.toNat, by omega⟩
        rw [← hid] at q0 o5
        rw [← hx] at q1 o1 o2
        rw [← hz] at q2 o3 o4
        clear hid hx hz
        have HI := Lib.hid (And.intro hL (And.intro hV (And.intro hPP (And.intro hPl (And.intro hOl (And.intro hfm (And.intro hev (And.intro hgq hbr))))))))
        have HC := Lib.hid (And.intro q0 (And.intro q1 hblw))
        have HO := Lib.hid (And.intro o1 (And.intro o2 (And.intro o3 (And.intro o4 o5))))
        have hi40 : i < 40 := by omega
        clear hL hV hPP hPl hOl hfm hev hgq hbr q0 q1 hblw o1 o2 o3 o5
        go_upto_block 2 with fail
        go_cut [12] from 47 to 123 (fun s12 wx => ∃ P', L17 S3 wx li lc lf d k F O P' ∧ (∀ p ∈ P', p = 0 ∨ p = 1) ∧ P'.length ≤ 6 * i + 6 ∧ Upd S3 wr wx)
        case first =>
          go_wp2_with fail
          go_loopg [12] 6 (fun g s12 wx => ∃ (f : Nat) (P' : List Int), s12 = .int .i64 f ∧ f ≤ 63 ∧ f < 2 ^ g ∧ L17 S3 wx li lc lf d k F O P' ∧ (∀ p ∈ P', p = 0 ∨ p = 1) ∧ P'.length + g ≤ 6 * i + 6 ∧ Upd S3 wr wx)
          case atStart => exact ⟨z, P, rfl, by omega, by omega, HI.out.1, HI.out.2.2.1, by have := HI.out.2.2.2.1; omega, Upd.refl _ _⟩
          case round =>
            obtain ⟨f, P', rfl, hf63, hfl, hL', hPP', hPl', hu'⟩ := hrel
            by_cases hf : 0 < f
            · obtain ⟨m, hm⟩ : ∃ m, gk = m + 1 := ⟨gk - 1, by
                cases gk with
                | zero => simp at hfl; omega
                | succ m => omega⟩
              have hua : Upd (fun _ => False) wr (wr.alloc (.cells #[.int .i64 ((f : Int) % 2)] 3)) := (Upd.refl _ wr).alloc _
              have hLa := hL'.new hua
              have HPn := Lib.hid (dplan hLa.dv hLa.nS (vk := .slice (some ⟨wr.heap.size, 0, none⟩) 1 1) (l := [(f : Int) % 2]) (Rd.fresh wr [.int .i64 ((f : Int) % 2)] 3 1 rfl (by unfold maxLen; omega))
                (by intro y hy; simp at hy; omega) (by simp; omega))
              have HA := Lib.hid (And.intro hLa (And.intro (hu'.trans (hua.mono (fun _ _ h => h.elim))) (And.intro hPP' (And.intro hPl' hfl))))
              clear hL' hu' hPP' hPl' hfl hua hLa
              go_wp2_with fail
              refine HPn.out.mono ?_
              rintro e w9 ⟨rfl, hd9, hu9⟩
              have H9 := Lib.hid (And.intro hd9 hu9)
              clear hd9 hu9 HPn
              go_wp2
              go_roundg m
              case rel =>
                obtain ⟨hLa, hua, hPP', hPl', hfl⟩ := HA.out
                refine ⟨f / 2, P' ++ [(f : Int) % 2], by rw [Int.natCast_ediv]; rfl, by omega, ?_, hLa.turn H9.out.2 H9.out.1 rfl, fun y hy => ?_, ?_, hua.trans H9.out.2⟩
                · rw [hm, Nat.pow_succ] at hfl; omega
                · rcases List.mem_append.1 hy with hy | hy
                  · exact hPP' y hy
                  · simp at hy; omega
                · rw [List.length_append]; simp; omega
              case measure => omega
            · obtain rfl : f = 0 := by omega
              have HA := Lib.hid (And.intro hL' (And.intro hPP' (And.intro hPl' hu')))
              clear hL' hPP' hPl' hu'
              go_wp2_with fail
              go_meet
              case rel => exact ⟨P', HA.out.1, HA.out.2.1, by have := HA.out.2.2.1; omega, HA.out.2.2.2⟩
        case rest =>
          obtain ⟨P', hL', hPP', hPl', hu'⟩ := hcut
          have hwq := H4.out.2.2.2.2.2.2.1
          have hNS : ¬ S3 q ∧ ¬ S3 bl ∧ ¬ S3 (q + 1) ∧ ¬ S3 (q + 2) := ⟨fun h => (H4.out.2.2.2.2.1 q h).2 ⟨Nat.le_refl _, by omega⟩, fun h => by have := (H4.out.2.2.2.2.1 bl h).1; have := HC.out.2.2; omega, fun h => (H4.out.2.2.2.2.1 _ h).2 ⟨by omega, by omega⟩, fun h => (H4.out.2.2.2.2.1 _ h).2 ⟨by omega, by omega⟩⟩
          have HNS := Lib.hid hNS
          have e0 : wc.cell? ⟨q, 0, none⟩ = some (ptr li) := hu'.cellv (cell_of_block HI.out.2.2.2.2.2.2.2.1 0) hNS.1
          have q0 := hu'.cellv HC.out.1 hNS.2.1
          have q1 := hu'.cellv HC.out.2.1 hNS.2.1
          have HR := Lib.hid (And.intro hL' (And.intro hPP' (And.intro hPl' hu')))
          obtain ⟨r, hr⟩ : ∃ r, r = logPutR (mayI [id, id, (x : Int), 1]) 11 k id (intentB id.toNat id.toNat (x : Int).toNat (1 : Int).toNat) F O P' := ⟨_, rfl⟩
          have HRr := Lib.hid hr
          clear hL' hPP' hPl' hu' hNS hwq hr
          go_upto_region 15 with fail
          refine wp_region_held_drew (S := fun W => W.cell? ⟨q, 0, none⟩ = some (ptr li) ∧ W.cell? ⟨bl, off + i * 3, none⟩ = some (.int .i64 id) ∧ W.cell? ⟨bl, off + i * 3 + 1, none⟩ = some (.int .i64 (x : Int))) (by kernel_rfl) (⟨by rw [World.cell?_drew]; exact e0, by rw [World.cell?_drew]; exact q0, by rw [World.cell?_drew]; exact q1⟩) (fun hHeld => ?_)
          refine wpAnyH_take (i := 0) (v := ?_) rfl (by kernel_rfl) (by kernel_rfl) (by kernel_rfl) (fun _ _ _ h => h) (Or.inl ⟨by rfl, ?_⟩) hHeld ?_
          rotate_left
          · intro W hSw; (try dsimp only at hSw); (try go_split_ands); go_simp; (try with_reducible rfl)
          simp only [List.getElem_toArray, List.getElem_cons_zero, Act.put, List.setIfInBounds_toArray, List.set_cons_zero, List.set_cons_succ]
          refine wpAnyH_take (i := 1) (v := ?_) rfl (by kernel_rfl) (by kernel_rfl) (by kernel_rfl) (fun _ _ _ h => h) (Or.inl ⟨by rfl, ?_⟩) hHeld ?_
          rotate_left
          · intro W hSw; (try dsimp only at hSw); (try go_split_ands); go_simp; (try with_reducible rfl)
          simp only [List.getElem_toArray, List.getElem_cons_succ, List.getElem_cons_zero, Act.put, List.setIfInBounds_toArray, List.set_cons_zero, List.set_cons_succ]
          refine wpAnyH_take (i := 2) (v := ?_) rfl (by kernel_rfl) (by kernel_rfl) (by kernel_rfl) (fun _ _ _ h => h) (Or.inl ⟨by rfl, ?_⟩) hHeld ?_
          rotate_left
          · intro W hSw; (try dsimp only at hSw); (try go_split_ands); go_simp; (try with_reducible rfl)
          simp only [List.getElem_toArray, List.getElem_cons_succ, List.getElem_cons_zero, Act.put, List.setIfInBounds_toArray, List.set_cons_zero, List.set_cons_succ]
          refine wpAnyH_take (i := 3) (v := ?_) rfl (by kernel_rfl) (by kernel_rfl) (by kernel_rfl) (fun _ _ _ h => h) (Or.inl ⟨by rfl, ?_⟩) hHeld ?_
          rotate_left
          · intro W hSw; (try dsimp only at hSw); (try go_split_ands); go_simp; (try with_reducible rfl)
          simp only [List.getElem_toArray, List.getElem_cons_succ, List.getElem_cons_zero, Act.put, List.setIfInBounds_toArray, List.set_cons_zero, List.set_cons_succ]
          refine wpAnyH_take (i := 4) (v := ?_) rfl (by kernel_rfl) (by kernel_rfl) (by kernel_rfl) (fun _ _ _ h => h) (Or.inl ⟨by rfl, ?_⟩) hHeld ?_
          rotate_left
          · intro W hSw; (try dsimp only at hSw); (try go_split_ands); go_simp; (try with_reducible rfl)
          simp only [List.getElem_toArray, List.getElem_cons_succ, List.getElem_cons_zero, Act.put, List.setIfInBounds_toArray, List.set_cons_zero, List.set_cons_succ]
          refine wpAnyH_take (i := 5) (v := ?_) rfl (by kernel_rfl) (by kernel_rfl) (by kernel_rfl) (fun _ _ _ h => h) (Or.inl ⟨by rfl, ?_⟩) hHeld ?_
          rotate_left
          · intro W hSw; (try dsimp only at hSw); (try go_split_ands); go_simp; (try with_reducible rfl)
          simp only [List.getElem_toArray, List.getElem_cons_succ, List.getElem_cons_zero, Act.put, List.setIfInBounds_toArray, List.set_cons_zero, List.set_cons_succ]
          refine wpAnyH_take (i := 6) (v := ?_) rfl (by kernel_rfl) (by kernel_rfl) (by kernel_rfl) (fun _ _ _ h => h) (Or.inl ⟨by rfl, ?_⟩) hHeld ?_
          rotate_left
          · intro W hSw; (try dsimp only at hSw); (try go_split_ands); go_simp; (try with_reducible rfl)
          simp only [List.getElem_toArray, List.getElem_cons_succ, List.getElem_cons_zero, Act.put, List.setIfInBounds_toArray, List.set_cons_zero, List.set_cons_succ]
          refine wpAnyH_take (i := 7) (v := ?_) rfl (by kernel_rfl) (by kernel_rfl) (by kernel_rfl) (fun _ _ _ h => h) (Or.inl ⟨by rfl, ?_⟩) hHeld ?_
          rotate_left
          · intro W hSw; (try dsimp only at hSw); (try go_split_ands); go_simp; (try with_reducible rfl)
          simp only [List.getElem_toArray, List.getElem_cons_succ, List.getElem_cons_zero, Act.put, List.setIfInBounds_toArray, List.set_cons_zero, List.set_cons_succ]
          refine wpAnyH_take (i := 8) (v := ?_) rfl (by kernel_rfl) (by kernel_rfl) (by kernel_rfl) (fun _ _ _ h => h) (Or.inl ⟨by rfl, ?_⟩) hHeld ?_
          rotate_left
          · intro W hSw; (try dsimp only at hSw); (try go_split_ands); go_simp; (try with_reducible rfl)
          simp only [List.getElem_toArray, List.getElem_cons_succ, List.getElem_cons_zero, Act.put, List.setIfInBounds_toArray, List.set_cons_zero, List.set_cons_succ]
          refine wpAnyH_take (i := 9) (v := ?_) rfl (by kernel_rfl) (by kernel_rfl) (by kernel_rfl) (fun _ _ _ h => h) (Or.inl ⟨by rfl, ?_⟩) hHeld ?_
          rotate_left
          · intro W hSw; (try dsimp only at hSw); (try go_split_ands); go_simp; (try with_reducible rfl)
          simp only [List.getElem_toArray, List.getElem_cons_succ, List.getElem_cons_zero, Act.put, List.setIfInBounds_toArray, List.set_cons_zero, List.set_cons_succ]
          refine wpAnyH_take (i := 10) (v := ?_) rfl (by kernel_rfl) (by kernel_rfl) (by kernel_rfl) (fun _ _ _ h => h) (Or.inl ⟨by rfl, ?_⟩) hHeld ?_
          rotate_left
          · intro W hSw; (try dsimp only at hSw); (try go_split_ands); go_simp; (try with_reducible rfl)
          simp only [List.getElem_toArray, List.getElem_cons_succ, List.getElem_cons_zero, Act.put, List.setIfInBounds_toArray, List.set_cons_zero, List.set_cons_succ]
          refine wpAnyH_take (i := 11) (v := ?_) rfl (by kernel_rfl) (by kernel_rfl) (by kernel_rfl) (fun _ _ _ h => h) (Or.inl ⟨by rfl, ?_⟩) hHeld ?_
          rotate_left
          · intro W hSw; (try dsimp only at hSw); (try go_split_ands); go_simp; (try with_reducible rfl)
          simp only [List.getElem_toArray, List.getElem_cons_succ, List.getElem_cons_zero, Act.put, List.setIfInBounds_toArray, List.set_cons_zero, List.set_cons_succ]
          refine wpAnyH_ready (rs := [12]) (by kernel_rfl) (by simp) ?_
          refine AllReadyH.cons rfl (fun K hK => ?_) AllReadyH.nil
          go_simp
          refine (thing_ok id (x : Int) _).mono ?_
          rintro e w5 ⟨rfl, hu5⟩
          have hu5' := ((Upd.refl (fun _ => False) wc).drew).trans hu5
          have H5 := Lib.hid (And.intro (HR.out.1.new hu5') hu5')
          clear hu5 hu5'
          refine hK.out _ _ (⟨H5.out.2.cellv e0 (fun h => h), H5.out.2.cellv q0 (fun h => h), H5.out.2.cellv q1 (fun h => h)⟩) (fun hH1 => ?_)
          clear hK K
          refine wpAnyH_ready (rs := [13]) (by kernel_rfl) (by simp) ?_
          refine AllReadyH.cons rfl (fun K hK => ?_) AllReadyH.nil
          go_simp
          refine (l17_put H5.out.1 (by have := HI.out.2.2.2.2.1; omega) id id (x : Int) 1).mono ?_
          rw [← HRr.out]
          rintro e w6 ⟨rfl, hL6, hu6⟩
          have H6 := Lib.hid (And.intro hL6 ((H5.out.2.mono (fun _ _ h => h.elim)).trans hu6))
          clear hL6 hu6
          refine hK.out _ _ (⟨H6.out.2.cellv e0 HNS.out.1, H6.out.2.cellv q0 HNS.out.2.1, H6.out.2.cellv q1 HNS.out.2.1⟩) (fun hH2 => ?_)
          clear hK K
          refine wpAnyH_ready (rs := [14]) (by kernel_rfl) (by simp) ?_
          refine AllReadyH.cons rfl (fun K hK => ?_) AllReadyH.nil
          go_simp
          refine hK.out _ _ (hH2) (fun hH3 => ?_)
          clear hK K
          refine wpAnyH_done (by kernel_rfl) ?_ _
          clear hHeld hH1 hH2 e0 q0 q1
          have hU6 : Upd S3 wr w6 := HR.out.2.2.2.trans H6.out.2
          have q0 := hU6.cellv HC.out.1 HNS.out.2.1
          have q1 := hU6.cellv HC.out.2.1 HNS.out.2.1
          have HU6 := Lib.hid hU6
          have o2 := HO.out.2.1
          have o1 := HO.out.1
          by_cases hin : 0 ≤ id ∧ id < (k : Int)
          · obtain ⟨n, rfl⟩ : ∃ n : Nat, id = n := ⟨id.toNat, by omega⟩
            obtain ⟨-, hnk⟩ := hin
            have hk12 := HK.out.2.1
            have hmay : mayI [(n : Int), (n : Int), (x : Int), 1] = true := thMay (id := n) (x := x) (by omega) (by omega)
            have hr : r = putR F O P' (11 + n) (thB n x) := by
              rw [HRr.out, hmay]
              unfold logPutR
              rw [if_neg (by simp), if_neg (by omega), Int.toNat_natCast]
              rfl
            have hput := (HI.out.2.1.mono (ev' := fun j y => ev j y || (j == n && y == x)) (fun j y h => by simp [h])).put hk12 HR.out.2.1 (by omega : n < k) (by omega : x ≤ 8) (by simp)
            rw [← hr] at hput
            have HPt := Lib.hid hput
            have hev6 := HI.out.2.2.2.2.2.2.1.keep hU6 HNS.out.2.2.2
            have hfm6 := HI.out.2.2.2.2.2.1.keep hU6 HNS.out.2.2.1
            obtain ⟨v1, z1⟩ := hev6.cell (j := n) (x := x) (by omega) (by omega)
            have HM := Lib.hid (And.intro hev6 hfm6)
            have hn12 : (n : Int) < 12 := by omega
            have hx9 : (x : Int) < 9 := by omega
            have hsq : q + 2 < w6.heap.size := hev6.lt
            clear hU6 hmay hr hput hev6 hfm6
            go_upto_region 19 with fail
            refine wp_region_held_drew (S := fun W => W.cell? ⟨bl, off + i * 3, none⟩ = some (.int .i64 (n : Int)) ∧ W.cell? ⟨bl, off + i * 3 + 1, none⟩ = some (.int .i64 (x : Int))) (by kernel_rfl) (⟨by rw [World.cell?_drew]; exact q0, by rw [World.cell?_drew]; exact q1⟩) (fun hHeld => ?_)
            refine wpAnyH_take (i := 0) (v := ?_) rfl (by kernel_rfl) (by kernel_rfl) (by kernel_rfl) (fun _ _ _ h => h) (Or.inl ⟨by rfl, ?_⟩) hHeld ?_
            rotate_left
            · intro W hSw; (try dsimp only at hSw); (try go_split_ands); go_simp; (try with_reducible rfl)
            simp only [List.getElem_toArray, List.getElem_cons_zero, Act.put, List.setIfInBounds_toArray, List.set_cons_zero, List.set_cons_succ]
            refine wpAnyH_take (i := 1) (v := ?_) rfl (by kernel_rfl) (by kernel_rfl) (by kernel_rfl) (fun _ _ _ h => h) (Or.inl ⟨by rfl, ?_⟩) hHeld ?_
            rotate_left
            · intro W hSw; (try dsimp only at hSw); (try go_split_ands); go_simp; (try with_reducible rfl)
            simp only [List.getElem_toArray, List.getElem_cons_succ, List.getElem_cons_zero, Act.put, List.setIfInBounds_toArray, List.set_cons_zero, List.set_cons_succ]
            refine wpAnyH_take (i := 2) (v := ?_) rfl (by kernel_rfl) (by kernel_rfl) (by kernel_rfl) (fun _ _ _ h => h) (Or.inl ⟨by rfl, ?_⟩) hHeld ?_
            rotate_left
            · intro W hSw; (try dsimp only at hSw); (try go_split_ands); go_simp; (try with_reducible rfl)
            simp only [List.getElem_toArray, List.getElem_cons_succ, List.getElem_cons_zero, Act.put, List.setIfInBounds_toArray, List.set_cons_zero, List.set_cons_succ]
            refine wpAnyH_take (i := 3) (v := ?_) rfl (by kernel_rfl) (by kernel_rfl) (by kernel_rfl) (fun _ _ _ h => h) (Or.inl ⟨by rfl, ?_⟩) hHeld ?_
            rotate_left
            · intro W hSw; (try dsimp only at hSw); (try go_split_ands); go_simp; (try with_reducible rfl)
            simp only [List.getElem_toArray, List.getElem_cons_succ, List.getElem_cons_zero, Act.put, List.setIfInBounds_toArray, List.set_cons_zero, List.set_cons_succ]
            refine wpAnyH_take (i := 4) (v := ?_) rfl (by kernel_rfl) (by kernel_rfl) (by kernel_rfl) (fun _ _ _ h => h) (Or.inl ⟨by rfl, ?_⟩) hHeld ?_
            rotate_left
            · intro W hSw; (try dsimp only at hSw); (try go_split_ands); go_simp; (try with_reducible rfl)
            simp only [List.getElem_toArray, List.getElem_cons_succ, List.getElem_cons_zero, Act.put, List.setIfInBounds_toArray, List.set_cons_zero, List.set_cons_succ]
            refine wpAnyH_take (i := 5) (v := ?_) rfl (by kernel_rfl) (by kernel_rfl) (by kernel_rfl) (fun _ _ _ h => h) (Or.inl ⟨by rfl, ?_⟩) hHeld ?_
            rotate_left
            · intro W hSw; (try dsimp only at hSw); (try go_split_ands); go_simp; (try with_reducible rfl)
            simp only [List.getElem_toArray, List.getElem_cons_succ, List.getElem_cons_zero, Act.put, List.setIfInBounds_toArray, List.set_cons_zero, List.set_cons_succ]
            refine wpAnyH_take (i := 6) (v := ?_) rfl (by kernel_rfl) (by kernel_rfl) (by kernel_rfl) (fun _ _ _ h => h) (Or.inl ⟨by rfl, ?_⟩) hHeld ?_
            rotate_left
            · intro W hSw; (try dsimp only at hSw); (try go_split_ands); go_simp; (try with_reducible rfl)
            simp only [List.getElem_toArray, List.getElem_cons_succ, List.getElem_cons_zero, Act.put, List.setIfInBounds_toArray, List.set_cons_zero, List.set_cons_succ]
            refine wpAnyH_take (i := 7) (v := ?_) rfl (by kernel_rfl) (by kernel_rfl) (by kernel_rfl) (fun _ _ _ h => h) (Or.inl ⟨by rfl, ?_⟩) hHeld ?_
            rotate_left
            · intro W hSw; (try dsimp only at hSw); (try go_split_ands); go_simp; (try with_reducible rfl)
            simp only [List.getElem_toArray, List.getElem_cons_succ, List.getElem_cons_zero, Act.put, List.setIfInBounds_toArray, List.set_cons_zero, List.set_cons_succ]
            refine wpAnyH_take (i := 8) (v := ?_) rfl (by kernel_rfl) (by kernel_rfl) (by kernel_rfl) (fun _ _ _ h => h) (Or.inl ⟨by rfl, ?_⟩) hHeld ?_
            rotate_left
            · intro W hSw; (try dsimp only at hSw); (try go_split_ands); go_simp; (try with_reducible rfl)
            simp only [List.getElem_toArray, List.getElem_cons_succ, List.getElem_cons_zero, Act.put, List.setIfInBounds_toArray, List.set_cons_zero, List.set_cons_succ]
            refine wpAnyH_take (i := 9) (v := ?_) rfl (by kernel_rfl) (by kernel_rfl) (by kernel_rfl) (fun _ _ _ h => h) (Or.inl ⟨by rfl, ?_⟩) hHeld ?_
            rotate_left
            · intro W hSw; (try dsimp only at hSw); (try go_split_ands); go_simp; (try with_reducible rfl)
            simp only [List.getElem_toArray, List.getElem_cons_succ, List.getElem_cons_zero, Act.put, List.setIfInBounds_toArray, List.set_cons_zero, List.set_cons_succ]
            refine wpAnyH_take (i := 10) (v := ?_) rfl (by kernel_rfl) (by kernel_rfl) (by kernel_rfl) (fun _ _ _ h => h) (Or.inl ⟨by rfl, ?_⟩) hHeld ?_
            rotate_left
            · intro W hSw; (try dsimp only at hSw); (try go_split_ands); go_simp; (try with_reducible rfl)
            simp only [List.getElem_toArray, List.getElem_cons_succ, List.getElem_cons_zero, Act.put, List.setIfInBounds_toArray, List.set_cons_zero, List.set_cons_succ]
            refine wpAnyH_take (i := 11) (v := ?_) rfl (by kernel_rfl) (by kernel_rfl) (by kernel_rfl) (fun _ _ _ h => h) (Or.inl ⟨by rfl, ?_⟩) hHeld ?_
            rotate_left
            · intro W hSw; (try dsimp only at hSw); (try go_split_ands); go_simp; (try with_reducible rfl)
            simp only [List.getElem_toArray, List.getElem_cons_succ, List.getElem_cons_zero, Act.put, List.setIfInBounds_toArray, List.set_cons_zero, List.set_cons_succ]
            refine wpAnyH_ready (rs := [12]) (by kernel_rfl) (by simp) ?_
            refine AllReadyH.cons rfl (fun K hK => ?_) AllReadyH.nil
            go_simp
            refine hK.out _ _ (⟨(upd_setCell _ _ _ _).cellv hHeld.1 (by have := HC.out.2.2; have := H4.out.2.2.2.2.2.2.1; omega), (upd_setCell _ _ _ _).cellv hHeld.2 (by have := HC.out.2.2; have := H4.out.2.2.2.2.2.2.1; omega)⟩) (fun hH1 => ?_)
            clear hK K
            refine wpAnyH_done (by kernel_rfl) ?_ _
            clear hHeld hH1 q0 q1 v1 z1
            obtain ⟨w7, hw7⟩ : ∃ w7, w7 = (w6.setCell ⟨q + 1 + 1, n * 9 + x, none⟩ (.bool true)).drew := ⟨_, rfl⟩
            rw [← hw7]
            have hu7 : Upd (fun j => j = q + 2) w6 w7 := by rw [hw7]; exact (upd_setCell w6 (q + 2) _ _).drew
            have hev7 : EvAt w7 (q + 2) (fun j y => ev j y || (j == n && y == x)) := by rw [hw7]; exact (HM.out.1.set (by omega) (by omega)).keep ((Upd.refl (fun _ => False) _).drew) (fun h => h)
            have hfm7 := HM.out.2.keep hu7 (by omega)
            have hL7 := H6.out.1.keep hu7 (fun j hj => by rw [hj]; exact ⟨HNS.out.2.2.2, by have := HLt.out; omega, by have := HLt.out; omega, by have := HLt.out; omega, by have := HLt.out; omega⟩)
            have hgq7 := (hu7.block q (by omega) (by omega)).trans ((HU6.out.block q (lt_of_block HI.out.2.2.2.2.2.2.2.1) HNS.out.1).trans HI.out.2.2.2.2.2.2.2.1)
            have hq0 := hu7.cellv (HU6.out.cellv HC.out.1 HNS.out.2.1) (by have := HC.out.2.2; have := H4.out.2.2.2.2.2.2.1; show ¬ bl = q + 2; omega)
            have hq1 := hu7.cellv (HU6.out.cellv HC.out.2.1 HNS.out.2.1) (by have := HC.out.2.2; have := H4.out.2.2.2.2.2.2.1; show ¬ bl = q + 2; omega)
            have hB7 : Below w.heap.size w w7 := below_upd (below_upd HI.out.2.2.2.2.2.2.2.2 HU6.out (Nat.le_refl _) (fun j h => (H4.out.2.2.2.2.1 j h).1)) hu7 (Nat.le_refl _) (fun j h => by have := H4.out.2.2.2.2.2.2.1; omega)
            obtain ⟨v2, z2⟩ := hfm7.cell (j := n) (by omega)
            have H7 := Lib.hid (And.intro hev7 (And.intro hfm7 (And.intro hL7 (And.intro hgq7 hB7))))
            have hsq7 : q + 1 < w7.heap.size := hfm7.lt
            clear hu7 hev7 hfm7 hL7 hgq7 hB7 hw7 hsq
            by_cases hcd : r.cd = 0
            · have hqcd : (r.cd == 0) = true := by simpa using hcd
              have HPt1 := HPt.out.1
              rw [if_pos hcd] at HPt1
              have HPt2 := Lib.hid HPt1
              clear HPt1 hcd
              have q0 := hq0
              have q1 := hq1
              clear hq0 hq1
              have hxw : IntKind.i64.wrap ((x : Int) + 1) = ((x + 1 : Nat) : Int) := by rw [IntWalk.i64_in _ (by omega)]; rfl
              go_upto_region 21 with fail
              refine wp_region_held_drew (S := fun W => W.cell? ⟨bl, off + i * 3, none⟩ = some (.int .i64 (n : Int)) ∧ W.cell? ⟨bl, off + i * 3 + 1, none⟩ = some (.int .i64 (x : Int))) (by kernel_rfl) (⟨by rw [World.cell?_drew]; exact q0, by rw [World.cell?_drew]; exact q1⟩) (fun hHeld => ?_)
              refine wpAnyH_take (i := 0) (v := ?_) rfl (by kernel_rfl) (by kernel_rfl) (by kernel_rfl) (fun _ _ _ h => h) (Or.inl ⟨by rfl, ?_⟩) hHeld ?_
              rotate_left
              · intro W hSw; (try dsimp only at hSw); (try go_split_ands); go_simp; (try with_reducible rfl)
              simp only [List.getElem_toArray, List.getElem_cons_zero, Act.put, List.setIfInBounds_toArray, List.set_cons_zero, List.set_cons_succ]
              refine wpAnyH_take (i := 1) (v := ?_) rfl (by kernel_rfl) (by kernel_rfl) (by kernel_rfl) (fun _ _ _ h => h) (Or.inl ⟨by rfl, ?_⟩) hHeld ?_
              rotate_left
              · intro W hSw; (try dsimp only at hSw); (try go_split_ands); go_simp; (try with_reducible rfl)
              simp only [List.getElem_toArray, List.getElem_cons_succ, List.getElem_cons_zero, Act.put, List.setIfInBounds_toArray, List.set_cons_zero, List.set_cons_succ]
              refine wpAnyH_take (i := 2) (v := ?_) rfl (by kernel_rfl) (by kernel_rfl) (by kernel_rfl) (fun _ _ _ h => h) (Or.inl ⟨by rfl, ?_⟩) hHeld ?_
              rotate_left
              · intro W hSw; (try dsimp only at hSw); (try go_split_ands); go_simp; (try with_reducible rfl)
              simp only [List.getElem_toArray, List.getElem_cons_succ, List.getElem_cons_zero, Act.put, List.setIfInBounds_toArray, List.set_cons_zero, List.set_cons_succ]
              refine wpAnyH_take (i := 3) (v := ?_) rfl (by kernel_rfl) (by kernel_rfl) (by kernel_rfl) (fun _ _ _ h => h) (Or.inl ⟨by rfl, ?_⟩) hHeld ?_
              rotate_left
              · intro W hSw; (try dsimp only at hSw); (try go_split_ands); go_simp; (try with_reducible rfl)
              simp only [List.getElem_toArray, List.getElem_cons_succ, List.getElem_cons_zero, Act.put, List.setIfInBounds_toArray, List.set_cons_zero, List.set_cons_succ]
              refine wpAnyH_take (i := 4) (v := ?_) rfl (by kernel_rfl) (by kernel_rfl) (by kernel_rfl) (fun _ _ _ h => h) (Or.inl ⟨by rfl, ?_⟩) hHeld ?_
              rotate_left
              · intro W hSw; (try dsimp only at hSw); (try go_split_ands); go_simp; (try with_reducible rfl)
              simp only [List.getElem_toArray, List.getElem_cons_succ, List.getElem_cons_zero, Act.put, List.setIfInBounds_toArray, List.set_cons_zero, List.set_cons_succ]
              refine wpAnyH_take (i := 5) (v := ?_) rfl (by kernel_rfl) (by kernel_rfl) (by kernel_rfl) (fun _ _ _ h => h) (Or.inl ⟨by rfl, ?_⟩) hHeld ?_
              rotate_left
              · intro W hSw; (try dsimp only at hSw); (try go_split_ands); go_simp; (try with_reducible rfl)
              simp only [List.getElem_toArray, List.getElem_cons_succ, List.getElem_cons_zero, Act.put, List.setIfInBounds_toArray, List.set_cons_zero, List.set_cons_succ]
              refine wpAnyH_take (i := 6) (v := ?_) rfl (by kernel_rfl) (by kernel_rfl) (by kernel_rfl) (fun _ _ _ h => h) (Or.inl ⟨by rfl, ?_⟩) hHeld ?_
              rotate_left
              · intro W hSw; (try dsimp only at hSw); (try go_split_ands); go_simp; (try with_reducible rfl)
              simp only [List.getElem_toArray, List.getElem_cons_succ, List.getElem_cons_zero, Act.put, List.setIfInBounds_toArray, List.set_cons_zero, List.set_cons_succ]
              refine wpAnyH_take (i := 7) (v := ?_) rfl (by kernel_rfl) (by kernel_rfl) (by kernel_rfl) (fun _ _ _ h => h) (Or.inl ⟨by rfl, ?_⟩) hHeld ?_
              rotate_left
              · intro W hSw; (try dsimp only at hSw); (try go_split_ands); go_simp; (try with_reducible rfl)
              simp only [List.getElem_toArray, List.getElem_cons_succ, List.getElem_cons_zero, Act.put, List.setIfInBounds_toArray, List.set_cons_zero, List.set_cons_succ]
              refine wpAnyH_take (i := 8) (v := ?_) rfl (by kernel_rfl) (by kernel_rfl) (by kernel_rfl) (fun _ _ _ h => h) (Or.inl ⟨by rfl, ?_⟩) hHeld ?_
              rotate_left
              · intro W hSw; (try dsimp only at hSw); (try go_split_ands); go_simp; (try with_reducible rfl)
              simp only [List.getElem_toArray, List.getElem_cons_succ, List.getElem_cons_zero, Act.put, List.setIfInBounds_toArray, List.set_cons_zero, List.set_cons_succ]
              refine wpAnyH_take (i := 9) (v := ?_) rfl (by kernel_rfl) (by kernel_rfl) (by kernel_rfl) (fun _ _ _ h => h) (Or.inl ⟨by rfl, ?_⟩) hHeld ?_
              rotate_left
              · intro W hSw; (try dsimp only at hSw); (try go_split_ands); go_simp; (try with_reducible rfl)
              simp only [List.getElem_toArray, List.getElem_cons_succ, List.getElem_cons_zero, Act.put, List.setIfInBounds_toArray, List.set_cons_zero, List.set_cons_succ]
              refine wpAnyH_take (i := 10) (v := ?_) rfl (by kernel_rfl) (by kernel_rfl) (by kernel_rfl) (fun _ _ _ h => h) (Or.inl ⟨by rfl, ?_⟩) hHeld ?_
              rotate_left
              · intro W hSw; (try dsimp only at hSw); (try go_split_ands); go_simp; (try with_reducible rfl)
              simp only [List.getElem_toArray, List.getElem_cons_succ, List.getElem_cons_zero, Act.put, List.setIfInBounds_toArray, List.set_cons_zero, List.set_cons_succ]
              refine wpAnyH_take (i := 11) (v := ?_) rfl (by kernel_rfl) (by kernel_rfl) (by kernel_rfl) (fun _ _ _ h => h) (Or.inl ⟨by rfl, ?_⟩) hHeld ?_
              rotate_left
              · intro W hSw; (try dsimp only at hSw); (try go_split_ands); go_simp; (try with_reducible rfl)
              simp only [List.getElem_toArray, List.getElem_cons_succ, List.getElem_cons_zero, Act.put, List.setIfInBounds_toArray, List.set_cons_zero, List.set_cons_succ]
              refine wpAnyH_ready (rs := [12]) (by kernel_rfl) (by simp) ?_
              refine AllReadyH.cons rfl (fun K hK => ?_) AllReadyH.nil
              go_simp
              refine hK.out _ _ (⟨(upd_setCell _ _ _ _).cellv hHeld.1 (by have := HC.out.2.2; have := H4.out.2.2.2.2.2.2.1; omega), (upd_setCell _ _ _ _).cellv hHeld.2 (by have := HC.out.2.2; have := H4.out.2.2.2.2.2.2.1; omega)⟩) (fun hH1 => ?_)
              clear hK K
              refine wpAnyH_done (by kernel_rfl) ?_ _
              clear hHeld hH1 q0 q1 v2 z2
              obtain ⟨w8, hw8⟩ : ∃ w8, w8 = (w7.setCell ⟨q + 1, n, none⟩ (.int .i64 ((x : Int) + 1))).drew := ⟨_, rfl⟩
              rw [← hw8]
              have hu8 : Upd (fun j => j = q + 1) w7 w8 := by rw [hw8]; exact (upd_setCell w7 (q + 1) _ _).drew
              have hfm8 : FmAt w8 (q + 1) (fun j => if j = n then x + 1 else fm j) := by rw [hw8]; exact (H7.out.2.1.set (v := x + 1) (by omega)).keep ((Upd.refl (fun _ => False) _).drew) (fun h => h)
              have hev8 := H7.out.1.keep hu8 (by omega)
              have hL8 := H7.out.2.2.1.keep hu8 (fun j hj => by rw [hj]; exact ⟨HNS.out.2.2.1, by have := HLt.out; omega, by have := HLt.out; omega, by have := HLt.out; omega, by have := HLt.out; omega⟩)
              have hgq8 := (hu8.block q (by omega) (by omega)).trans H7.out.2.2.2.1
              have hB8 : Below w.heap.size w w8 := below_upd H7.out.2.2.2.2 hu8 (Nat.le_refl _) (fun j h => by have := H4.out.2.2.2.2.2.2.1; omega)
              have H8 := Lib.hid (And.intro hev8 (And.intro hfm8 (And.intro hL8 (And.intro hgq8 hB8))))
              clear hu8 hev8 hfm8 hL8 hgq8 hB8 hw8 hsq7
              go_wp2
              go_roundg (gk - 1)
              case rel =>
                obtain ⟨hev8, hfm8, hL8, hgq8, hB8⟩ := H8.out
                obtain ⟨-, hO, hPm, hPn⟩ := HPt.out
                exact ⟨i + 1, r.F, r.O, r.P, _, _, by omega, by go_num, hL8, HPt2.out, fun p hp => HR.out.2.1 p (hPm p hp), by have := HR.out.2.2.1; omega, by have := HI.out.2.2.2.2.1; omega, hfm8, hev8, hgq8, hB8⟩
              case measure => omega
            · have hqcd : (r.cd == 0) = false := by simpa using hcd
              have HPt1 := HPt.out.1
              rw [if_neg hcd] at HPt1
              have HPt2 := Lib.hid HPt1
              clear HPt1 hcd hq0 hq1 v2 z2
              go_wp2
              go_roundg (gk - 1)
              case rel =>
                obtain ⟨hev7, hfm7, hL7, hgq7, hB7⟩ := H7.out
                obtain ⟨-, hO, hPm, hPn⟩ := HPt.out
                exact ⟨i + 1, r.F, r.O, r.P, fm, _, by omega, by go_num, hL7, HPt2.out, fun p hp => HR.out.2.1 p (hPm p hp), by have := HR.out.2.2.1; omega, by have := HI.out.2.2.2.2.1; omega, hfm7, hev7, hgq7, hB7⟩
              case measure => omega
          · obtain ⟨cd, hcd, hr⟩ : ∃ cd : Int, cd ≠ 0 ∧ r = ⟨F, O, P', cd⟩ := by
              rw [HRr.out]
              unfold logPutR
              by_cases hm : mayI [id, id, (x : Int), 1] = false
              · exact ⟨10, by decide, if_pos hm⟩
              · rw [if_neg hm, if_pos (by omega)]
                exact ⟨17, by decide, rfl⟩
            subst hr
            have hqcd : (cd == 0) = false := by simpa using hcd
            have hcs : id < 0 ∨ (0 ≤ id ∧ (k : Int) ≤ id) := by omega
            clear hin hcd HRr hU6
            rcases hcs with h0 | ⟨h0, hk0⟩
            all_goals
              go_wp2
              go_roundg (gk - 1)
              case rel =>
                obtain ⟨hL, hV, hPP, hPl, hOl, hfm, hev, hgq, hbr⟩ := HI.out
                exact ⟨i + 1, F, O, P', fm, ev, by omega, by go_num, H6.out.1, hV, HR.out.2.1, by have := HR.out.2.2.1; omega, by omega, hfm.keep HU6.out HNS.out.2.2.1, hev.keep HU6.out HNS.out.2.2.2, (HU6.out.block q (lt_of_block hgq) HNS.out.1).trans hgq, below_upd hbr HU6.out (Nat.le_refl _) (fun j h => (H4.out.2.2.2.2.1 j h).1)⟩
              case measure => omega
      · obtain rfl : i = l.length := by omega
        have hop := fun (W : World) (h : Below wr.heap.size wr W) => dopen (hL.dv.below h)
        have HOp := Lib.hid hop
        have HI := Lib.hid (And.intro hL (And.intro hV (And.intro hfm (And.intro hev hbr))))
        have hOl40 : O.length ≤ 40 := by omega
        obtain ⟨i0, hi0, hzz⟩ := Option.map_eq_some_iff.1 infoBool
        simp only [Prod.mk.injEq] at hzz
        obtain ⟨hz0, hz1, hz2⟩ := hzz
        obtain ⟨z0, hz, hzs⟩ := Option.map_eq_some_iff.1 hz0
        have HB0 := Lib.hid (And.intro hi0 (And.intro hz (And.intro hz1 (And.intro hz2 hzs))))
        clear hop hL hV hPP hPl hOl hfm hev hgq hbr hi0 hz0 hz1 hz2 hz hzs
        go_wp2
        obtain ⟨wb, rfl⟩ : ∃ wb : World, wb = wr := ⟨_, rfl⟩
        go_loopg [2, 14, 15] O.length (fun g s2 s14 s15 wx => ∃ (c : Nat) (ks : List Bool), c + g = O.length ∧ s15 = .int .i64 c ∧ s2 = .int .i64 ((B / 2 ^ c : Nat) : Int) ∧ ks.length = c ∧ Sl wx 4 1 s14 c (bools ks) ∧ From wb.heap.size s14 ∧ Below wb.heap.size wb wx)
        case atStart => exact ⟨0, [], by omega, rfl, by simp, rfl, Sl.nil _ _ _, From.nil _ _ _, Below.refl _ _⟩
        case round =>
          obtain ⟨c, ks, hcg, rfl, rfl, hks, hsl, hfr, hbx⟩ := hrel
          by_cases hlt : c < O.length
          · obtain ⟨y, hy⟩ : ∃ y, y = B / 2 ^ c := ⟨_, rfl⟩
            have hyl : y < 9223372036854775808 := by rw [hy]; exact Nat.lt_of_le_of_lt (Nat.div_le_self _ _) HK.out.2.2.2
            rw [← hy]
            have HY := Lib.hid hy
            have hs14 := Lib.hid hsl
            have HX := Lib.hid (And.intro hfr (And.intro hbx hks))
            have hc40 : (c : Int) < 60 := by omega
            have hone := Lib.hid (show ∀ u ∈ [Value.bool ((y : Int) % 2 == 1)], u.oneCell' = true by intro u hu; simp at hu; subst hu; rfl)
            clear hy hsl hfr hks
            go_wp2_with (first
              | (go_at_call 26; refine (HOp.out _ HX.out.2.1).mono ?_; rintro e w7 ⟨rfl, hw7⟩; rw [hw7]; clear hw7 w7)
              | (at_builtin; refine wpList_append_one rfl _ _ 70 rfl i0 z0 1 Tryz.underlying70 HB0.out.1 HB0.out.2.1 HB0.out.2.2.1 HB0.out.2.2.2.1 HB0.out.2.2.2.2 (by decide) rfl hs14.out [.bool ((y : Int) % 2 == 1)] rfl rfl hone.out (by unfold maxLen; omega) (by omega) ?_; intro v' w11 hs11 hu11 hbf)
              | fail)
            replace hu11 : Upd (ownS u14) wr w11 := hu11
            replace hbf : blockFrom wr u14 v' := hbf
            have HA := Lib.hid (And.intro hs11 (And.intro hu11 hbf))
            clear hs11 hu11 hbf hbx
            go_roundg (gk - 1)
            case rel =>
              obtain ⟨hs11, hu11, hbf⟩ := HA.out
              obtain ⟨hfr, hbx, hks⟩ := HX.out
              refine ⟨c + 1, ks ++ [((y : Int) % 2 == 1)], by omega, by go_num, ?_, by simp [hks], ?_, hbf.ge hbx.size hfr, below_upd hbx hu11 (Nat.le_refl _) (fun j hj => hfr j hj)⟩
              · rw [Nat.pow_succ, ← Nat.div_div_eq_div_mul, ← HY.out]; rfl
              · have e : bools (ks ++ [((y : Int) % 2 == 1)]) = bools ks ++ [.bool ((y : Int) % 2 == 1)] := by simp
                rw [e]; exact hs11
            case measure => omega
          · obtain rfl : c = O.length := by omega
            obtain ⟨ak, ck, rfl⟩ := hsl.rd.nil_iff
            have hkl : ks.length ≤ O.length := by omega
            rw [← hks] at hsl
            have HCr := Lib.hid (dcrash (HI.out.1.dv.below hbx) hsl.rd hkl)
            rw [hks] at HCr
            have HE := Lib.hid hbx
            clear hsl hfr hbx hks hkl
            go_wp2_with (first
              | (go_at_call 26; refine (HOp.out _ HE.out).mono ?_; rintro e w7 ⟨rfl, hw7⟩; rw [hw7]; clear hw7 w7)
              | fail)
            refine HCr.out.mono ?_
            rintro e w7 ⟨b2, rfl, hd7, hb7⟩
            have hV7 := HI.out.2.1.crash ks
            have hB7 : Below w.heap.size w w7 := (HI.out.2.2.2.2.trans (HE.out.mono HI.out.2.2.2.2.size)).trans (hb7.mono (HI.out.2.2.2.2.trans (HE.out.mono HI.out.2.2.2.2.size)).size)
            have HCs : Hid (wr.heap.size ≤ w7.heap.size) := hb7.size
            have hub7 : Below wb.heap.size wb w7 := HE.out.trans (hb7.mono HE.out.size)
            have hfm7 := HI.out.2.2.1.keep (Upd.of_below (S := fun _ => False) hub7) (fun h => h)
            have hev7 := HI.out.2.2.2.1.keep (Upd.of_below (S := fun _ => False) hub7) (fun h => h)
            have H7 := Lib.hid (And.intro hd7 (And.intro hV7 (And.intro hB7 (And.intro hfm7 hev7))))
            have HZ7 : Hid (q + 2 < wr.heap.size ∧ w.heap.size ≤ wr.heap.size) := ⟨Nat.lt_of_lt_of_le HI.out.2.2.2.1.lt HE.out.size, (HI.out.2.2.2.2.trans (HE.out.mono HI.out.2.2.2.2.size)).size⟩
            clear hd7 hb7 hV7 hB7 hub7 hfm7 hev7 HCr
            go_wp2_with fail
            refine (small_ok _).mono ?_
            rintro e w8 ⟨rfl, hb8⟩
            obtain ⟨L7, hL7⟩ : ∃ L, L = superC 7 9 2 8 1 2 3 := ⟨_, rfl⟩
            have i7 : Hid (L7.length = 7) := by show _ = _; rw [hL7]; rfl
            have s7 : Hid ((Tryz.prog.info? 34).map (·.size) = some L7.length) := by show _ = _; rw [i7.out]; exact infoSup
            have o7 : Hid (∀ v ∈ L7, v.oneCell' = true) := by show ∀ v ∈ L7, _; rw [hL7]; exact superC_one 7 9 2 8 1 2 3
            obtain ⟨w9, hw9⟩ : ∃ w9, w9 = w8.alloc (.cells L7.toArray 34) := ⟨_, rfl⟩
            have hb9 : Below w8.heap.size w8 w9 := by rw [hw9]; exact (Below.refl _ w8).alloc (Nat.le_refl _) _
            have hs9 : w9.heap[w8.heap.size]? = some (.cells L7.toArray 34 (0, 0)) := by rw [hw9]; exact heap_alloc_last w8 _ rfl
            have e3 : w9.cell? ⟨w8.heap.size, 3, none⟩ = some (.int .i64 8) := (cell_of_block hs9 3).trans (by rw [List.getElem?_toArray, hL7]; rfl)
            have e4 : w9.cell? ⟨w8.heap.size, 4, none⟩ = some (.int .i64 1) := (cell_of_block hs9 4).trans (by rw [List.getElem?_toArray, hL7]; rfl)
            rw [← hL7]
            have hb79 : Below w7.heap.size w7 w9 := hb8.trans (hb9.mono hb8.size)
            have hlen : (crashF F O ks).length = 13 + 3 * k := H7.out.2.1.fl
            have hth : thereB (crashF F O ks).length 11 (k : Int) = true := by rw [hlen]; unfold thereB; have := HK.out; simp; omega
            have hLI := lints_any (H7.out.1.below hb79) 11 (k : Int) (by unfold InR; omega) (by unfold InR; have := HK.out.2.1; omega)
            have HLI := Lib.hid hLI
            have HTh := Lib.hid hth
            have H9 := Lib.hid hb79
            have HW9 := Lib.hid hw9
            rw [hw9] at e3 e4
            clear hb8 hb9 hs9 hb79 hlen hth hLI hw9 hL7
            go_wp2_with (first
              | (refine wpList_store_new rfl _ _ _ rfl _ _ _ rfl rfl (by rw [i7.out]; rfl) s7.out o7.out ?_)
              | fail)
            rw [← HW9.out]
            refine HLI.out.mono ?_
            rintro e w10 ⟨xo, rfl, -, hb10, hlog⟩
            rw [HTh.out] at hlog
            obtain ⟨l2, rfl, hlg, hl9⟩ := hlog rfl
            have hcd0 : (if thereB (crashF F O ks).length 11 (k : Int) = true then (0 : Int) else 10) = 0 := if_pos HTh.out
            rw [hcd0]
            rw [show (11 : Int).toNat = 11 from rfl, Int.toNat_natCast] at hlg
            have hb710 : Below w7.heap.size w7 w10 := H9.out.trans (hb10.mono H9.out.size)
            obtain ⟨T, hT⟩ : ∃ T : Nat → Prop, T = fun j => wr.heap.size ≤ j ∧ ¬ (w7.heap.size ≤ j ∧ j < w10.heap.size) := ⟨_, rfl⟩
            have hdT : Dv T w10 b2 (crashF F O ks) [] [] := by rw [hT]; exact (H7.out.1.out (fun j hj hs => ⟨hs, fun e => by omega⟩)).below hb710
            have hTn : ∀ j, w10.heap.size ≤ j → T j := fun j hj => by
              have h1 := hb710.size
              have h2 : wr.heap.size ≤ w7.heap.size := by have := H7.out.2.2.1.size; have := HZ7.out; have := HCs.out; omega
              rw [hT]; exact ⟨by omega, fun e => by omega⟩
            have hz79 := H9.out.size
            have hTl : ¬ T l2 := fun h => by rw [hT] at h; exact h.2 ⟨by omega, hlg.lt⟩
            have hTb : ∀ j, T j → wr.heap.size ≤ j := fun j h => by rw [hT] at h; exact h.1
            have hnw := HT.out.1.lt
            have hTN : ¬ T 0 := fun h => by have := hTb _ h; have := HZ7.out.2; omega
            have hfm10 := H7.out.2.2.2.1.keep (Upd.of_below (S := fun _ => False) hb710) (fun h => h)
            have hev10 := H7.out.2.2.2.2.keep (Upd.of_below (S := fun _ => False) hb710) (fun h => h)
            have hB10 := H7.out.2.2.1.trans (hb710.mono H7.out.2.2.1.size)
            have H10 := Lib.hid (And.intro hdT (And.intro hTn (And.intro hTl (And.intro hTb (And.intro hTN (And.intro hfm10 (And.intro hev10 (And.intro hB10 hlg))))))))
            clear hdT hTn hTl hTb hTN hfm10 hev10 hB10 hlg hb10 hb710 hz79 hnw hT hl9 hlog hcd0 e3 e4
            go_wp2
            obtain ⟨wd, rfl⟩ : ∃ wd : World, wd = wr := ⟨_, rfl⟩
            go_loopw [21] (fun s21 wx => ∃ j : Nat, j ≤ k ∧ s21 = .int .i64 j ∧ Dv T wx b2 (crashF F O ks) [] [] ∧ Upd T w10 wx) (fun s21 _ => k - (intOf s21).toNat)
            case atStart => exact ⟨0, Nat.zero_le _, rfl, H10.out.1, Upd.refl _ _⟩
            case round =>
              obtain ⟨j, hj, rfl, hdx, hux⟩ := hrel
              have hk12 := HK.out.2.1
              by_cases hjk : j < k
              · obtain ⟨-, hTn, hTl, hTb, hTN, hfm, hev, hB10, hlg⟩ := H10.out
                have hnw := HT.out.1.below hB10
                have HG := Lib.hid (lgetG (hlg.keep hux hTl) hdx (fun i hi => hTn i (Nat.le_trans hux.size hi)) hTl (hnw.keep hux hTN) hTN tellsNumber (by have := H7.out.2.1.fl; omega) hjk (y := (crashF F O ks).getD (11 + j) zB) (curB_nil _ _))
                have hqw : ¬ T (q + 1) ∧ ¬ T (q + 2) := ⟨fun h => by have := hTb _ h; have := HZ7.out; omega, fun h => by have := hTb _ h; have := HZ7.out; omega⟩
                have HF := Lib.hid (And.intro (hfm.keep hux hqw.1) (And.intro (hev.keep hux hqw.2) (And.intro hqw hux)))
                clear hTn hTl hTb hTN hfm hev hB10 hlg hnw hdx hux hqw
                go_wp2_with fail
                refine HG.out.mono ?_
                rintro e w11 ⟨y0, y1, y2, y3, cd, rfl, hcd, hy1, hy2, hd11, hu11⟩
                have hcs := lasts_cases H7.out.2.1 hk12 hjk hcd hy1 hy2
                obtain ⟨w12, hw12⟩ : ∃ w12, w12 = w11.alloc (.cells #[.int .i64 y0, .int .i64 y1, .int .i64 y2, .int .i64 y3] 39) := ⟨_, rfl⟩
                have hu12 : Upd (fun _ => False) w11 w12 := by rw [hw12]; exact (Upd.refl _ w11).alloc _
                have hg12 : w12.heap[w11.heap.size]? = some (.cells #[.int .i64 y0, .int .i64 y1, .int .i64 y2, .int .i64 y3] 39 (0, 0)) := by rw [hw12]; exact heap_alloc_last w11 _ rfl
                have hfm12 := (HF.out.1.keep hu11 HF.out.2.2.1.1).keep hu12 (fun h => h)
                have hev12 := (HF.out.2.1.keep hu11 HF.out.2.2.1.2).keep hu12 (fun h => h)
                have hdv12 := hd11.new hu12
                have hux12 : Upd T w10 w12 := HF.out.2.2.2.trans (hu11.trans (hu12.mono (fun _ _ h => h.elim)))
                have hj12 : (j : Int) < 12 := by omega
                have c1 := (hfm12.cell (j := j) (by omega)).1
                have r0 := range_of_block (cs := [.int .i64 y0, .int .i64 y1, .int .i64 y2, .int .i64 y3]) hg12
                have d2 : w12.cell? ⟨w11.heap.size, 2, none⟩ = some (.int .i64 y2) := cell_of_block hg12 2
                have rne := run_neq_intent
                have HD := Lib.hid (And.intro hdv12 hux12)
                have HEv := Lib.hid hev12
                have HW12 := Lib.hid hw12
                clear hcd hy1 hy2 hd11 hu11 hu12 hg12 hfm12 hev12 hdv12 hux12 hw12
                go_upto_region 39 with fail
                rw [← HW12.out]
                rcases hcs with ⟨x, hx8, hfx, rfl, rfl, rfl, rfl, rfl, hevx⟩ | ⟨hfx, rfl, rfl, rfl, rfl, rfl⟩ | ⟨x, hx8, hfx, rfl, rfl, rfl, rfl, rfl, hevx⟩
                · rw [hfx] at c1
                  have c1 : w12.cell? ⟨q + 1, j, none⟩ = some (.int .i64 ((x : Int) + 1)) := c1
                  have hx0 : 0 < (x : Int) + 1 := by omega
                  have v1 := (HEv.out.cell (j := j) (x := x) (by omega) (by omega)).1
                  rw [hevx] at v1
                  have hm1 : (if (x : Int) < 8 then (x : Int) else 8) = x := by split <;> omega
                  have hm2 : (if 0 < x then (x : Int) else 0) = x := by split <;> omega
                  have hx9 : (x : Int) < 9 := by omega
                  have hwx : IntKind.i64.wrap (x : Int) = (x : Int) := IntWalk.i64_in _ (by omega)
                  refine wp_region_held_drew (S := fun W => W.cell? ⟨q + 1, j, none⟩ = some (.int .i64 ((x : Int) + 1)) ∧ W.rangeAt w11.heap.size 0 [.int .i64 (j : Int), .int .i64 (j : Int), .int .i64 (x : Int), .int .i64 1]) (by kernel_rfl) (⟨by rw [World.cell?_drew]; exact c1, by rw [World.rangeAt_drew]; exact r0⟩) (fun hHeld => ?_)
                  refine wpAnyH_take (i := 0) (v := ?_) rfl (by kernel_rfl) (by kernel_rfl) (by kernel_rfl) (fun _ _ _ h => h) (Or.inl ⟨by rfl, ?_⟩) hHeld ?_
                  rotate_left
                  · intro W hSw; (try dsimp only at hSw); (try go_split_ands); go_simp; (try with_reducible rfl)
                  simp only [List.getElem_toArray, List.getElem_cons_zero, Act.put, List.setIfInBounds_toArray, List.set_cons_zero, List.set_cons_succ]
                  refine wpAnyH_take (i := 1) (v := ?_) rfl (by kernel_rfl) (by kernel_rfl) (by kernel_rfl) (fun _ _ _ h => h) (Or.inl ⟨by rfl, ?_⟩) hHeld ?_
                  rotate_left
                  · intro W hSw; (try dsimp only at hSw); (try go_split_ands); go_simp; (try with_reducible rfl)
                  simp only [List.getElem_toArray, List.getElem_cons_succ, List.getElem_cons_zero, Act.put, List.setIfInBounds_toArray, List.set_cons_zero, List.set_cons_succ]
                  refine wpAnyH_take (i := 2) (v := ?_) rfl (by kernel_rfl) (by kernel_rfl) (by kernel_rfl) (fun _ _ _ h => h) (Or.inl ⟨by rfl, ?_⟩) hHeld ?_
                  rotate_left
                  · intro W hSw; (try dsimp only at hSw); (try go_split_ands); go_simp; (try with_reducible rfl)
                  simp only [List.getElem_toArray, List.getElem_cons_succ, List.getElem_cons_zero, Act.put, List.setIfInBounds_toArray, List.set_cons_zero, List.set_cons_succ]
                  refine wpAnyH_take (i := 3) (v := ?_) rfl (by kernel_rfl) (by kernel_rfl) (by kernel_rfl) (fun _ _ _ h => h) (Or.inl ⟨by rfl, ?_⟩) hHeld ?_
                  rotate_left
                  · intro W hSw; (try dsimp only at hSw); (try go_split_ands); go_simp; (try with_reducible rfl)
                  simp only [List.getElem_toArray, List.getElem_cons_succ, List.getElem_cons_zero, Act.put, List.setIfInBounds_toArray, List.set_cons_zero, List.set_cons_succ]
                  refine wpAnyH_take (i := 4) (v := ?_) rfl (by kernel_rfl) (by kernel_rfl) (by kernel_rfl) (fun _ _ _ h => h) (Or.inl ⟨by rfl, ?_⟩) hHeld ?_
                  rotate_left
                  · intro W hSw; (try dsimp only at hSw); (try go_split_ands); go_simp; (try with_reducible rfl)
                  simp only [List.getElem_toArray, List.getElem_cons_succ, List.getElem_cons_zero, Act.put, List.setIfInBounds_toArray, List.set_cons_zero, List.set_cons_succ]
                  refine wpAnyH_take (i := 5) (v := ?_) rfl (by kernel_rfl) (by kernel_rfl) (by kernel_rfl) (fun _ _ _ h => h) (Or.inl ⟨by rfl, ?_⟩) hHeld ?_
                  rotate_left
                  · intro W hSw; (try dsimp only at hSw); (try go_split_ands); go_simp; (try with_reducible rfl)
                  simp only [List.getElem_toArray, List.getElem_cons_succ, List.getElem_cons_zero, Act.put, List.setIfInBounds_toArray, List.set_cons_zero, List.set_cons_succ]
                  refine wpAnyH_take (i := 6) (v := ?_) rfl (by kernel_rfl) (by kernel_rfl) (by kernel_rfl) (fun _ _ _ h => h) (Or.inl ⟨by rfl, ?_⟩) hHeld ?_
                  rotate_left
                  · intro W hSw; (try dsimp only at hSw); (try go_split_ands); go_simp; (try with_reducible rfl)
                  simp only [List.getElem_toArray, List.getElem_cons_succ, List.getElem_cons_zero, Act.put, List.setIfInBounds_toArray, List.set_cons_zero, List.set_cons_succ]
                  refine wpAnyH_take (i := 7) (v := ?_) rfl (by kernel_rfl) (by kernel_rfl) (by kernel_rfl) (fun _ _ _ h => h) (Or.inl ⟨by rfl, ?_⟩) hHeld ?_
                  rotate_left
                  · intro W hSw; (try dsimp only at hSw); (try go_split_ands); go_simp; (try with_reducible rfl)
                  simp only [List.getElem_toArray, List.getElem_cons_succ, List.getElem_cons_zero, Act.put, List.setIfInBounds_toArray, List.set_cons_zero, List.set_cons_succ]
                  refine' wpAnyH_take (i := 8) rfl (by kernel_rfl) (by kernel_rfl) (by kernel_rfl) (fun _ _ _ h => h) (yieldsIf_load_mid (by rfl) _ _ rfl _ _ rfl _ _ (fun w h => h.2) Tryz.underlying39 rfl infoIn) hHeld _
                  simp only [List.getElem_toArray, List.getElem_cons_succ, List.getElem_cons_zero, Act.put, List.setIfInBounds_toArray, List.set_cons_zero, List.set_cons_succ]
                  refine wpAnyH_take (i := 9) (v := ?_) rfl (by kernel_rfl) (by kernel_rfl) (by kernel_rfl) (fun _ _ _ h => h) (Or.inl ⟨by rfl, ?_⟩) hHeld ?_
                  rotate_left
                  · intro W hSw; (try dsimp only at hSw); (try go_split_ands); go_simp; (try with_reducible rfl)
                  simp only [List.getElem_toArray, List.getElem_cons_succ, List.getElem_cons_zero, Act.put, List.setIfInBounds_toArray, List.set_cons_zero, List.set_cons_succ]
                  refine wpAnyH_take (i := 10) (v := ?_) rfl (by kernel_rfl) (by kernel_rfl) (by kernel_rfl) (fun _ _ _ h => h) (Or.inl ⟨by rfl, ?_⟩) hHeld ?_
                  rotate_left
                  · intro W hSw; (try dsimp only at hSw); (try go_split_ands); go_simp; (try with_reducible rfl)
                  simp only [List.getElem_toArray, List.getElem_cons_succ, List.getElem_cons_zero, Act.put, List.setIfInBounds_toArray, List.set_cons_zero, List.set_cons_succ]
                  refine wpAnyH_take (i := 11) (v := ?_) rfl (by kernel_rfl) (by kernel_rfl) (by kernel_rfl) (fun _ _ _ h => h) (Or.inl ⟨by rfl, ?_⟩) hHeld ?_
                  rotate_left
                  · intro W hSw; (try dsimp only at hSw); (try go_split_ands); go_simp; (try with_reducible rfl)
                  simp only [List.getElem_toArray, List.getElem_cons_succ, List.getElem_cons_zero, Act.put, List.setIfInBounds_toArray, List.set_cons_zero, List.set_cons_succ]
                  refine wpAnyH_take (i := 12) (v := ?_) rfl (by kernel_rfl) (by kernel_rfl) (by kernel_rfl) (fun _ _ _ h => h) (Or.inl ⟨by rfl, ?_⟩) hHeld ?_
                  rotate_left
                  · intro W hSw; (try dsimp only at hSw); (try go_split_ands); go_simp; (try with_reducible rfl)
                  simp only [List.getElem_toArray, List.getElem_cons_succ, List.getElem_cons_zero, Act.put, List.setIfInBounds_toArray, List.set_cons_zero, List.set_cons_succ]
                  refine wpAnyH_take (i := 13) (v := ?_) rfl (by kernel_rfl) (by kernel_rfl) (by kernel_rfl) (fun _ _ _ h => h) (Or.inl ⟨by rfl, ?_⟩) hHeld ?_
                  rotate_left
                  · intro W hSw; (try dsimp only at hSw); (try go_split_ands); go_simp; (try with_reducible rfl)
                  simp only [List.getElem_toArray, List.getElem_cons_succ, List.getElem_cons_zero, Act.put, List.setIfInBounds_toArray, List.set_cons_zero, List.set_cons_succ]
                  refine wpAnyH_ready (rs := [14]) (by kernel_rfl) (by simp) ?_
                  refine AllReadyH.cons rfl (fun K hK => ?_) AllReadyH.nil
                  go_simp
                  refine (thing_ok (j : Int) (x : Int) _).mono ?_
                  rintro e w13 ⟨rfl, hu13⟩
                  have hu13' := ((Upd.refl (fun _ => False) w12).drew).trans hu13
                  have v1' := hu13'.cellv v1 (fun h => h)
                  have d2' := hu13'.cellv d2 (fun h => h)
                  have H13 := Lib.hid (And.intro (HD.out.1.new hu13') (HD.out.2.trans (hu13'.mono (fun _ _ h => h.elim))))
                  clear hu13 
                  refine hK.out _ _ (⟨hu13'.cellv c1 (fun h => h), hu13'.range r0 (fun h => h)⟩) (fun hH1 => ?_)
                  clear hK K
                  refine wpAnyH_take (i := 15) (v := ?_) rfl (by kernel_rfl) (by kernel_rfl) (by kernel_rfl) (fun _ _ _ h => h) (Or.inl ⟨by rfl, ?_⟩) hH1 ?_
                  rotate_left
                  · intro W hSw; (try dsimp only at hSw); (try go_split_ands); go_simp; (try with_reducible rfl)
                  simp only [List.getElem_toArray, List.getElem_cons_succ, List.getElem_cons_zero, Act.put, List.setIfInBounds_toArray, List.set_cons_zero, List.set_cons_succ]
                  refine wpAnyH_ready (rs := [16]) (by kernel_rfl) (by simp) ?_
                  refine AllReadyH.cons rfl (fun K hK => ?_) AllReadyH.nil
                  go_simp
                  refine hK.out _ _ (hH1) (fun hH2 => ?_)
                  clear hK K
                  refine wpAnyH_ready (rs := [17]) (by kernel_rfl) (by simp) ?_
                  refine AllReadyH.cons rfl (fun K hK => ?_) AllReadyH.nil
                  go_simp
                  refine hK.out _ _ (hH2) (fun hH3 => ?_)
                  clear hK K
                  refine wpAnyH_done (by kernel_rfl) ?_ _
                  clear hHeld hH1 c1 v1 d2 r0 rne hwx
                  go_upto_region 41 with fail
                  refine wp_region_held_drew (S := fun W => W.cell? ⟨q + 2, j * 9 + x, none⟩ = some (.bool true) ∧ W.cell? ⟨w11.heap.size, 2, none⟩ = some (.int .i64 (x : Int))) (by kernel_rfl) (⟨by rw [World.cell?_drew]; exact v1', by rw [World.cell?_drew]; exact d2'⟩) (fun hHeld => ?_)
                  refine wpAnyH_take (i := 0) (v := ?_) rfl (by kernel_rfl) (by kernel_rfl) (by kernel_rfl) (fun _ _ _ h => h) (Or.inl ⟨by rfl, ?_⟩) hHeld ?_
                  rotate_left
                  · intro W hSw; (try dsimp only at hSw); (try go_split_ands); go_simp; (try with_reducible rfl)
                  simp only [List.getElem_toArray, List.getElem_cons_zero, Act.put, List.setIfInBounds_toArray, List.set_cons_zero, List.set_cons_succ]
                  refine wpAnyH_take (i := 1) (v := ?_) rfl (by kernel_rfl) (by kernel_rfl) (by kernel_rfl) (fun _ _ _ h => h) (Or.inl ⟨by rfl, ?_⟩) hHeld ?_
                  rotate_left
                  · intro W hSw; (try dsimp only at hSw); (try go_split_ands); go_simp; (try with_reducible rfl)
                  simp only [List.getElem_toArray, List.getElem_cons_succ, List.getElem_cons_zero, Act.put, List.setIfInBounds_toArray, List.set_cons_zero, List.set_cons_succ]
                  refine wpAnyH_take (i := 2) (v := ?_) rfl (by kernel_rfl) (by kernel_rfl) (by kernel_rfl) (fun _ _ _ h => h) (Or.inl ⟨by rfl, ?_⟩) hHeld ?_
                  rotate_left
                  · intro W hSw; (try dsimp only at hSw); (try go_split_ands); go_simp; (try with_reducible rfl)
                  simp only [List.getElem_toArray, List.getElem_cons_succ, List.getElem_cons_zero, Act.put, List.setIfInBounds_toArray, List.set_cons_zero, List.set_cons_succ]
                  refine' wpAnyH_take (i := 3) rfl (by kernel_rfl) (by kernel_rfl) (by kernel_rfl) (fun _ _ _ h => h) (Or.inr ⟨by rfl, rfl⟩) hHeld _
                  simp only [List.getElem_toArray, List.getElem_cons_succ, List.getElem_cons_zero, Act.put, List.setIfInBounds_toArray, List.set_cons_zero, List.set_cons_succ]
                  refine' wpAnyH_take (i := 4) rfl (by kernel_rfl) (by kernel_rfl) (by kernel_rfl) (fun _ _ _ h => h) (Or.inr ⟨by rfl, rfl⟩) hHeld _
                  simp only [List.getElem_toArray, List.getElem_cons_succ, List.getElem_cons_zero, Act.put, List.setIfInBounds_toArray, List.set_cons_zero, List.set_cons_succ]
                  refine wpAnyH_ready (rs := [5]) (by kernel_rfl) (by simp) ?_
                  refine AllReadyH.cons rfl (fun K hK => ?_) AllReadyH.nil
                  go_simp
                  refine hK.out _ _ (hHeld) (fun hH1 => ?_)
                  clear hK K
                  refine wpAnyH_take (i := 6) (v := ?_) rfl (by kernel_rfl) (by kernel_rfl) (by kernel_rfl) (fun _ _ _ h => h) (Or.inl ⟨by rfl, ?_⟩) hH1 ?_
                  rotate_left
                  · intro W hSw; (try dsimp only at hSw); (try go_split_ands); go_simp; (try with_reducible rfl)
                  simp only [List.getElem_toArray, List.getElem_cons_succ, List.getElem_cons_zero, Act.put, List.setIfInBounds_toArray, List.set_cons_zero, List.set_cons_succ]
                  refine wpAnyH_take (i := 7) (v := ?_) rfl (by kernel_rfl) (by kernel_rfl) (by kernel_rfl) (fun _ _ _ h => h) (Or.inl ⟨by rfl, ?_⟩) hH1 ?_
                  rotate_left
                  · intro W hSw; (try dsimp only at hSw); (try go_split_ands); go_simp; (try with_reducible rfl)
                  simp only [List.getElem_toArray, List.getElem_cons_succ, List.getElem_cons_zero, Act.put, List.setIfInBounds_toArray, List.set_cons_zero, List.set_cons_succ]
                  refine wpAnyH_take (i := 8) (v := ?_) rfl (by kernel_rfl) (by kernel_rfl) (by kernel_rfl) (fun _ _ _ h => h) (Or.inl ⟨by rfl, ?_⟩) hH1 ?_
                  rotate_left
                  · intro W hSw; (try dsimp only at hSw); (try go_split_ands); go_simp; (try with_reducible rfl)
                  simp only [List.getElem_toArray, List.getElem_cons_succ, List.getElem_cons_zero, Act.put, List.setIfInBounds_toArray, List.set_cons_zero, List.set_cons_succ]
                  refine wpAnyH_take (i := 9) (v := ?_) rfl (by kernel_rfl) (by kernel_rfl) (by kernel_rfl) (fun _ _ _ h => h) (Or.inl ⟨by rfl, ?_⟩) hH1 ?_
                  rotate_left
                  · intro W hSw; (try dsimp only at hSw); (try go_split_ands); go_simp; (try with_reducible rfl)
                  simp only [List.getElem_toArray, List.getElem_cons_succ, List.getElem_cons_zero, Act.put, List.setIfInBounds_toArray, List.set_cons_zero, List.set_cons_succ]
                  refine wpAnyH_take (i := 10) (v := ?_) rfl (by kernel_rfl) (by kernel_rfl) (by kernel_rfl) (fun _ _ _ h => h) (Or.inl ⟨by rfl, ?_⟩) hH1 ?_
                  rotate_left
                  · intro W hSw; (try dsimp only at hSw); (try go_split_ands); go_simp; (try with_reducible rfl)
                  simp only [List.getElem_toArray, List.getElem_cons_succ, List.getElem_cons_zero, Act.put, List.setIfInBounds_toArray, List.set_cons_zero, List.set_cons_succ]
                  refine wpAnyH_take (i := 11) (v := ?_) rfl (by kernel_rfl) (by kernel_rfl) (by kernel_rfl) (fun _ _ _ h => h) (Or.inl ⟨by rfl, ?_⟩) hH1 ?_
                  rotate_left
                  · intro W hSw; (try dsimp only at hSw); (try go_split_ands); go_simp; (try with_reducible rfl)
                  simp only [List.getElem_toArray, List.getElem_cons_succ, List.getElem_cons_zero, Act.put, List.setIfInBounds_toArray, List.set_cons_zero, List.set_cons_succ]
                  refine wpAnyH_take (i := 12) (v := ?_) rfl (by kernel_rfl) (by kernel_rfl) (by kernel_rfl) (fun _ _ _ h => h) (Or.inl ⟨by rfl, ?_⟩) hH1 ?_
                  rotate_left
                  · intro W hSw; (try dsimp only at hSw); (try go_split_ands); go_simp; (try with_reducible rfl)
                  simp only [List.getElem_toArray, List.getElem_cons_succ, List.getElem_cons_zero, Act.put, List.setIfInBounds_toArray, List.set_cons_zero, List.set_cons_succ]
                  refine wpAnyH_take (i := 13) (v := ?_) rfl (by kernel_rfl) (by kernel_rfl) (by kernel_rfl) (fun _ _ _ h => h) (Or.inl ⟨by rfl, ?_⟩) hH1 ?_
                  rotate_left
                  · intro W hSw; (try dsimp only at hSw); (try go_split_ands); go_simp; (try with_reducible rfl)
                  simp only [List.getElem_toArray, List.getElem_cons_succ, List.getElem_cons_zero, Act.put, List.setIfInBounds_toArray, List.set_cons_zero, List.set_cons_succ]
                  refine wpAnyH_take (i := 14) (v := ?_) rfl (by kernel_rfl) (by kernel_rfl) (by kernel_rfl) (fun _ _ _ h => h) (Or.inl ⟨by rfl, ?_⟩) hH1 ?_
                  rotate_left
                  · intro W hSw; (try dsimp only at hSw); (try go_split_ands); go_simp; (try with_reducible rfl)
                  simp only [List.getElem_toArray, List.getElem_cons_succ, List.getElem_cons_zero, Act.put, List.setIfInBounds_toArray, List.set_cons_zero, List.set_cons_succ]
                  refine wpAnyH_take (i := 15) (v := ?_) rfl (by kernel_rfl) (by kernel_rfl) (by kernel_rfl) (fun _ _ _ h => h) (Or.inl ⟨by rfl, ?_⟩) hH1 ?_
                  rotate_left
                  · intro W hSw; (try dsimp only at hSw); (try go_split_ands); go_simp; (try with_reducible rfl)
                  simp only [List.getElem_toArray, List.getElem_cons_succ, List.getElem_cons_zero, Act.put, List.setIfInBounds_toArray, List.set_cons_zero, List.set_cons_succ]
                  refine wpAnyH_take (i := 16) (v := ?_) rfl (by kernel_rfl) (by kernel_rfl) (by kernel_rfl) (fun _ _ _ h => h) (Or.inl ⟨by rfl, ?_⟩) hH1 ?_
                  rotate_left
                  · intro W hSw; (try dsimp only at hSw); (try go_split_ands); go_simp; (try with_reducible rfl)
                  simp only [List.getElem_toArray, List.getElem_cons_succ, List.getElem_cons_zero, Act.put, List.setIfInBounds_toArray, List.set_cons_zero, List.set_cons_succ]
                  refine wpAnyH_take (i := 17) (v := ?_) rfl (by kernel_rfl) (by kernel_rfl) (by kernel_rfl) (fun _ _ _ h => h) (Or.inl ⟨by rfl, ?_⟩) hH1 ?_
                  rotate_left
                  · intro W hSw; (try dsimp only at hSw); (try go_split_ands); go_simp; (try with_reducible rfl)
                  simp only [List.getElem_toArray, List.getElem_cons_succ, List.getElem_cons_zero, Act.put, List.setIfInBounds_toArray, List.set_cons_zero, List.set_cons_succ]
                  refine wpAnyH_take (i := 18) (v := ?_) rfl (by kernel_rfl) (by kernel_rfl) (by kernel_rfl) (fun _ _ _ h => h) (Or.inl ⟨by rfl, ?_⟩) hH1 ?_
                  rotate_left
                  · intro W hSw; (try dsimp only at hSw); (try go_split_ands); go_simp; (try with_reducible rfl)
                  simp only [List.getElem_toArray, List.getElem_cons_succ, List.getElem_cons_zero, Act.put, List.setIfInBounds_toArray, List.set_cons_zero, List.set_cons_succ]
                  refine wpAnyH_take (i := 19) (v := ?_) rfl (by kernel_rfl) (by kernel_rfl) (by kernel_rfl) (fun _ _ _ h => h) (Or.inl ⟨by rfl, ?_⟩) hH1 ?_
                  rotate_left
                  · intro W hSw; (try dsimp only at hSw); (try go_split_ands); go_simp; (try with_reducible rfl)
                  simp only [List.getElem_toArray, List.getElem_cons_succ, List.getElem_cons_zero, Act.put, List.setIfInBounds_toArray, List.set_cons_zero, List.set_cons_succ]
                  refine wpAnyH_ready (rs := [20]) (by kernel_rfl) (by simp) ?_
                  refine AllReadyH.cons rfl (fun K hK => ?_) AllReadyH.nil
                  go_simp
                  refine hK.out _ _ (hH1) (fun hH2 => ?_)
                  clear hK K
                  refine wpAnyH_ready (rs := [21]) (by kernel_rfl) (by simp) ?_
                  refine AllReadyH.cons rfl (fun K hK => ?_) AllReadyH.nil
                  go_simp
                  refine hK.out _ _ (hH2) (fun hH3 => ?_)
                  clear hK K
                  refine wpAnyH_done (by kernel_rfl) ?_ _
                  clear hHeld v1' d2' hm1 hm2
                  go_wp2
                  go_roundw
                  case rel => exact ⟨j + 1, by omega, by go_num, H13.out.1.new ((Upd.refl _ _).drew), H13.out.2.drew⟩
                  case measure => simp [intOf]; omega
                · rw [hfx] at c1
                  have c1 : w12.cell? ⟨q + 1, j, none⟩ = some (.int .i64 0) := c1
                  refine wp_region_held_drew (S := fun W => W.cell? ⟨q + 1, j, none⟩ = some (.int .i64 0)) (by kernel_rfl) (by rw [World.cell?_drew]; exact c1) (fun hHeld => ?_)
                  refine wpAnyH_take (i := 0) (v := ?_) rfl (by kernel_rfl) (by kernel_rfl) (by kernel_rfl) (fun _ _ _ h => h) (Or.inl ⟨by rfl, ?_⟩) hHeld ?_
                  rotate_left
                  · intro W hSw; (try dsimp only at hSw); (try go_split_ands); go_simp; (try with_reducible rfl)
                  simp only [List.getElem_toArray, List.getElem_cons_zero, Act.put, List.setIfInBounds_toArray, List.set_cons_zero, List.set_cons_succ]
                  refine wpAnyH_take (i := 1) (v := ?_) rfl (by kernel_rfl) (by kernel_rfl) (by kernel_rfl) (fun _ _ _ h => h) (Or.inl ⟨by rfl, ?_⟩) hHeld ?_
                  rotate_left
                  · intro W hSw; (try dsimp only at hSw); (try go_split_ands); go_simp; (try with_reducible rfl)
                  simp only [List.getElem_toArray, List.getElem_cons_succ, List.getElem_cons_zero, Act.put, List.setIfInBounds_toArray, List.set_cons_zero, List.set_cons_succ]
                  refine wpAnyH_take (i := 2) (v := ?_) rfl (by kernel_rfl) (by kernel_rfl) (by kernel_rfl) (fun _ _ _ h => h) (Or.inl ⟨by rfl, ?_⟩) hHeld ?_
                  rotate_left
                  · intro W hSw; (try dsimp only at hSw); (try go_split_ands); go_simp; (try with_reducible rfl)
                  simp only [List.getElem_toArray, List.getElem_cons_succ, List.getElem_cons_zero, Act.put, List.setIfInBounds_toArray, List.set_cons_zero, List.set_cons_succ]
                  refine wpAnyH_take (i := 3) (v := ?_) rfl (by kernel_rfl) (by kernel_rfl) (by kernel_rfl) (fun _ _ _ h => h) (Or.inl ⟨by rfl, ?_⟩) hHeld ?_
                  rotate_left
                  · intro W hSw; (try dsimp only at hSw); (try go_split_ands); go_simp; (try with_reducible rfl)
                  simp only [List.getElem_toArray, List.getElem_cons_succ, List.getElem_cons_zero, Act.put, List.setIfInBounds_toArray, List.set_cons_zero, List.set_cons_succ]
                  refine wpAnyH_take (i := 4) (v := ?_) rfl (by kernel_rfl) (by kernel_rfl) (by kernel_rfl) (fun _ _ _ h => h) (Or.inl ⟨by rfl, ?_⟩) hHeld ?_
                  rotate_left
                  · intro W hSw; (try dsimp only at hSw); (try go_split_ands); go_simp; (try with_reducible rfl)
                  simp only [List.getElem_toArray, List.getElem_cons_succ, List.getElem_cons_zero, Act.put, List.setIfInBounds_toArray, List.set_cons_zero, List.set_cons_succ]
                  refine' wpAnyH_take (i := 5) rfl (by kernel_rfl) (by kernel_rfl) (by kernel_rfl) (fun _ _ _ h => h) (Or.inr ⟨by rfl, rfl⟩) hHeld _
                  simp only [List.getElem_toArray, List.getElem_cons_succ, List.getElem_cons_zero, Act.put, List.setIfInBounds_toArray, List.set_cons_zero, List.set_cons_succ]
                  refine' wpAnyH_take (i := 6) rfl (by kernel_rfl) (by kernel_rfl) (by kernel_rfl) (fun _ _ _ h => h) (Or.inr ⟨by rfl, rfl⟩) hHeld _
                  simp only [List.getElem_toArray, List.getElem_cons_succ, List.getElem_cons_zero, Act.put, List.setIfInBounds_toArray, List.set_cons_zero, List.set_cons_succ]
                  refine' wpAnyH_take (i := 7) rfl (by kernel_rfl) (by kernel_rfl) (by kernel_rfl) (fun _ _ _ h => h) (Or.inr ⟨by rfl, rfl⟩) hHeld _
                  simp only [List.getElem_toArray, List.getElem_cons_succ, List.getElem_cons_zero, Act.put, List.setIfInBounds_toArray, List.set_cons_zero, List.set_cons_succ]
                  refine' wpAnyH_take (i := 8) rfl (by kernel_rfl) (by kernel_rfl) (by kernel_rfl) (fun _ _ _ h => h) (Or.inr ⟨by rfl, rfl⟩) hHeld _
                  simp only [List.getElem_toArray, List.getElem_cons_succ, List.getElem_cons_zero, Act.put, List.setIfInBounds_toArray, List.set_cons_zero, List.set_cons_succ]
                  refine' wpAnyH_take (i := 9) rfl (by kernel_rfl) (by kernel_rfl) (by kernel_rfl) (fun _ _ _ h => h) (Or.inr ⟨by rfl, rfl⟩) hHeld _
                  simp only [List.getElem_toArray, List.getElem_cons_succ, List.getElem_cons_zero, Act.put, List.setIfInBounds_toArray, List.set_cons_zero, List.set_cons_succ]
                  refine' wpAnyH_take (i := 10) rfl (by kernel_rfl) (by kernel_rfl) (by kernel_rfl) (fun _ _ _ h => h) (Or.inr ⟨by rfl, rfl⟩) hHeld _
                  simp only [List.getElem_toArray, List.getElem_cons_succ, List.getElem_cons_zero, Act.put, List.setIfInBounds_toArray, List.set_cons_zero, List.set_cons_succ]
                  refine' wpAnyH_take (i := 11) rfl (by kernel_rfl) (by kernel_rfl) (by kernel_rfl) (fun _ _ _ h => h) (Or.inr ⟨by rfl, rfl⟩) hHeld _
                  simp only [List.getElem_toArray, List.getElem_cons_succ, List.getElem_cons_zero, Act.put, List.setIfInBounds_toArray, List.set_cons_zero, List.set_cons_succ]
                  refine' wpAnyH_take (i := 12) rfl (by kernel_rfl) (by kernel_rfl) (by kernel_rfl) (fun _ _ _ h => h) (Or.inr ⟨by rfl, rfl⟩) hHeld _
                  simp only [List.getElem_toArray, List.getElem_cons_succ, List.getElem_cons_zero, Act.put, List.setIfInBounds_toArray, List.set_cons_zero, List.set_cons_succ]
                  refine' wpAnyH_take (i := 13) rfl (by kernel_rfl) (by kernel_rfl) (by kernel_rfl) (fun _ _ _ h => h) (Or.inr ⟨by rfl, rfl⟩) hHeld _
                  simp only [List.getElem_toArray, List.getElem_cons_succ, List.getElem_cons_zero, Act.put, List.setIfInBounds_toArray, List.set_cons_zero, List.set_cons_succ]
                  refine' wpAnyH_take (i := 14) rfl (by kernel_rfl) (by kernel_rfl) (by kernel_rfl) (fun _ _ _ h => h) (Or.inr ⟨by rfl, rfl⟩) hHeld _
                  simp only [List.getElem_toArray, List.getElem_cons_succ, List.getElem_cons_zero, Act.put, List.setIfInBounds_toArray, List.set_cons_zero, List.set_cons_succ]
                  refine' wpAnyH_take (i := 15) rfl (by kernel_rfl) (by kernel_rfl) (by kernel_rfl) (fun _ _ _ h => h) (Or.inr ⟨by rfl, rfl⟩) hHeld _
                  simp only [List.getElem_toArray, List.getElem_cons_succ, List.getElem_cons_zero, Act.put, List.setIfInBounds_toArray, List.set_cons_zero, List.set_cons_succ]
                  refine' wpAnyH_take (i := 16) rfl (by kernel_rfl) (by kernel_rfl) (by kernel_rfl) (fun _ _ _ h => h) (Or.inr ⟨by rfl, rfl⟩) hHeld _
                  simp only [List.getElem_toArray, List.getElem_cons_succ, List.getElem_cons_zero, Act.put, List.setIfInBounds_toArray, List.set_cons_zero, List.set_cons_succ]
                  refine wpAnyH_ready (rs := [17]) (by kernel_rfl) (by simp) ?_
                  refine AllReadyH.cons rfl (fun K hK => ?_) AllReadyH.nil
                  go_simp
                  refine hK.out _ _ (hHeld) (fun hH1 => ?_)
                  clear hK K
                  refine wpAnyH_done (by kernel_rfl) ?_ _
                  clear hHeld c1 d2 r0 rne
                  go_upto_region 41 with fail
                  refine wp_region_held_drew (S := fun _ => True) (by kernel_rfl) (trivial) (fun hHeld => ?_)
                  refine wpAnyH_take (i := 0) (v := ?_) rfl (by kernel_rfl) (by kernel_rfl) (by kernel_rfl) (fun _ _ _ h => h) (Or.inl ⟨by rfl, ?_⟩) hHeld ?_
                  rotate_left
                  · intro W hSw; (try dsimp only at hSw); (try go_split_ands); go_simp; (try with_reducible rfl)
                  simp only [List.getElem_toArray, List.getElem_cons_zero, Act.put, List.setIfInBounds_toArray, List.set_cons_zero, List.set_cons_succ]
                  refine wpAnyH_take (i := 1) (v := ?_) rfl (by kernel_rfl) (by kernel_rfl) (by kernel_rfl) (fun _ _ _ h => h) (Or.inl ⟨by rfl, ?_⟩) hHeld ?_
                  rotate_left
                  · intro W hSw; (try dsimp only at hSw); (try go_split_ands); go_simp; (try with_reducible rfl)
                  simp only [List.getElem_toArray, List.getElem_cons_succ, List.getElem_cons_zero, Act.put, List.setIfInBounds_toArray, List.set_cons_zero, List.set_cons_succ]
                  refine wpAnyH_take (i := 2) (v := ?_) rfl (by kernel_rfl) (by kernel_rfl) (by kernel_rfl) (fun _ _ _ h => h) (Or.inl ⟨by rfl, ?_⟩) hHeld ?_
                  rotate_left
                  · intro W hSw; (try dsimp only at hSw); (try go_split_ands); go_simp; (try with_reducible rfl)
                  simp only [List.getElem_toArray, List.getElem_cons_succ, List.getElem_cons_zero, Act.put, List.setIfInBounds_toArray, List.set_cons_zero, List.set_cons_succ]
                  refine wpAnyH_take (i := 3) (v := ?_) rfl (by kernel_rfl) (by kernel_rfl) (by kernel_rfl) (fun _ _ _ h => h) (Or.inl ⟨by rfl, ?_⟩) hHeld ?_
                  rotate_left
                  · intro W hSw; (try dsimp only at hSw); (try go_split_ands); go_simp; (try with_reducible rfl)
                  simp only [List.getElem_toArray, List.getElem_cons_succ, List.getElem_cons_zero, Act.put, List.setIfInBounds_toArray, List.set_cons_zero, List.set_cons_succ]
                  refine wpAnyH_take (i := 4) (v := ?_) rfl (by kernel_rfl) (by kernel_rfl) (by kernel_rfl) (fun _ _ _ h => h) (Or.inl ⟨by rfl, ?_⟩) hHeld ?_
                  rotate_left
                  · intro W hSw; (try dsimp only at hSw); (try go_split_ands); go_simp; (try with_reducible rfl)
                  simp only [List.getElem_toArray, List.getElem_cons_succ, List.getElem_cons_zero, Act.put, List.setIfInBounds_toArray, List.set_cons_zero, List.set_cons_succ]
                  refine wpAnyH_ready (rs := [5]) (by kernel_rfl) (by simp) ?_
                  refine AllReadyH.cons rfl (fun K hK => ?_) AllReadyH.nil
                  go_simp
                  refine hK.out _ _ (hHeld) (fun hH1 => ?_)
                  clear hK K
                  refine wpAnyH_take (i := 6) (v := ?_) rfl (by kernel_rfl) (by kernel_rfl) (by kernel_rfl) (fun _ _ _ h => h) (Or.inl ⟨by rfl, ?_⟩) hH1 ?_
                  rotate_left
                  · intro W hSw; (try dsimp only at hSw); (try go_split_ands); go_simp; (try with_reducible rfl)
                  simp only [List.getElem_toArray, List.getElem_cons_succ, List.getElem_cons_zero, Act.put, List.setIfInBounds_toArray, List.set_cons_zero, List.set_cons_succ]
                  refine wpAnyH_take (i := 7) (v := ?_) rfl (by kernel_rfl) (by kernel_rfl) (by kernel_rfl) (fun _ _ _ h => h) (Or.inl ⟨by rfl, ?_⟩) hH1 ?_
                  rotate_left
                  · intro W hSw; (try dsimp only at hSw); (try go_split_ands); go_simp; (try with_reducible rfl)
                  simp only [List.getElem_toArray, List.getElem_cons_succ, List.getElem_cons_zero, Act.put, List.setIfInBounds_toArray, List.set_cons_zero, List.set_cons_succ]
                  refine wpAnyH_take (i := 8) (v := ?_) rfl (by kernel_rfl) (by kernel_rfl) (by kernel_rfl) (fun _ _ _ h => h) (Or.inl ⟨by rfl, ?_⟩) hH1 ?_
                  rotate_left
                  · intro W hSw; (try dsimp only at hSw); (try go_split_ands); go_simp; (try with_reducible rfl)
                  simp only [List.getElem_toArray, List.getElem_cons_succ, List.getElem_cons_zero, Act.put, List.setIfInBounds_toArray, List.set_cons_zero, List.set_cons_succ]
                  refine wpAnyH_take (i := 9) (v := ?_) rfl (by kernel_rfl) (by kernel_rfl) (by kernel_rfl) (fun _ _ _ h => h) (Or.inl ⟨by rfl, ?_⟩) hH1 ?_
                  rotate_left
                  · intro W hSw; (try dsimp only at hSw); (try go_split_ands); go_simp; (try with_reducible rfl)
                  simp only [List.getElem_toArray, List.getElem_cons_succ, List.getElem_cons_zero, Act.put, List.setIfInBounds_toArray, List.set_cons_zero, List.set_cons_succ]
                  refine' wpAnyH_take (i := 10) rfl (by kernel_rfl) (by kernel_rfl) (by kernel_rfl) (fun _ _ _ h => h) (Or.inr ⟨by rfl, rfl⟩) hH1 _
                  simp only [List.getElem_toArray, List.getElem_cons_succ, List.getElem_cons_zero, Act.put, List.setIfInBounds_toArray, List.set_cons_zero, List.set_cons_succ]
                  refine' wpAnyH_take (i := 11) rfl (by kernel_rfl) (by kernel_rfl) (by kernel_rfl) (fun _ _ _ h => h) (Or.inr ⟨by rfl, rfl⟩) hH1 _
                  simp only [List.getElem_toArray, List.getElem_cons_succ, List.getElem_cons_zero, Act.put, List.setIfInBounds_toArray, List.set_cons_zero, List.set_cons_succ]
                  refine' wpAnyH_take (i := 12) rfl (by kernel_rfl) (by kernel_rfl) (by kernel_rfl) (fun _ _ _ h => h) (Or.inr ⟨by rfl, rfl⟩) hH1 _
                  simp only [List.getElem_toArray, List.getElem_cons_succ, List.getElem_cons_zero, Act.put, List.setIfInBounds_toArray, List.set_cons_zero, List.set_cons_succ]
                  refine' wpAnyH_take (i := 13) rfl (by kernel_rfl) (by kernel_rfl) (by kernel_rfl) (fun _ _ _ h => h) (Or.inr ⟨by rfl, rfl⟩) hH1 _
                  simp only [List.getElem_toArray, List.getElem_cons_succ, List.getElem_cons_zero, Act.put, List.setIfInBounds_toArray, List.set_cons_zero, List.set_cons_succ]
                  refine' wpAnyH_take (i := 14) rfl (by kernel_rfl) (by kernel_rfl) (by kernel_rfl) (fun _ _ _ h => h) (Or.inr ⟨by rfl, rfl⟩) hH1 _
                  simp only [List.getElem_toArray, List.getElem_cons_succ, List.getElem_cons_zero, Act.put, List.setIfInBounds_toArray, List.set_cons_zero, List.set_cons_succ]
                  refine' wpAnyH_take (i := 15) rfl (by kernel_rfl) (by kernel_rfl) (by kernel_rfl) (fun _ _ _ h => h) (Or.inr ⟨by rfl, rfl⟩) hH1 _
                  simp only [List.getElem_toArray, List.getElem_cons_succ, List.getElem_cons_zero, Act.put, List.setIfInBounds_toArray, List.set_cons_zero, List.set_cons_succ]
                  refine' wpAnyH_take (i := 16) rfl (by kernel_rfl) (by kernel_rfl) (by kernel_rfl) (fun _ _ _ h => h) (Or.inr ⟨by rfl, rfl⟩) hH1 _
                  simp only [List.getElem_toArray, List.getElem_cons_succ, List.getElem_cons_zero, Act.put, List.setIfInBounds_toArray, List.set_cons_zero, List.set_cons_succ]
                  refine' wpAnyH_take (i := 17) rfl (by kernel_rfl) (by kernel_rfl) (by kernel_rfl) (fun _ _ _ h => h) (Or.inr ⟨by rfl, rfl⟩) hH1 _
                  simp only [List.getElem_toArray, List.getElem_cons_succ, List.getElem_cons_zero, Act.put, List.setIfInBounds_toArray, List.set_cons_zero, List.set_cons_succ]
                  refine' wpAnyH_take (i := 18) rfl (by kernel_rfl) (by kernel_rfl) (by kernel_rfl) (fun _ _ _ h => h) (Or.inr ⟨by rfl, rfl⟩) hH1 _
                  simp only [List.getElem_toArray, List.getElem_cons_succ, List.getElem_cons_zero, Act.put, List.setIfInBounds_toArray, List.set_cons_zero, List.set_cons_succ]
                  refine' wpAnyH_take (i := 19) rfl (by kernel_rfl) (by kernel_rfl) (by kernel_rfl) (fun _ _ _ h => h) (Or.inr ⟨by rfl, rfl⟩) hH1 _
                  simp only [List.getElem_toArray, List.getElem_cons_succ, List.getElem_cons_zero, Act.put, List.setIfInBounds_toArray, List.set_cons_zero, List.set_cons_succ]
                  refine wpAnyH_ready (rs := [20]) (by kernel_rfl) (by simp) ?_
                  refine AllReadyH.cons rfl (fun K hK => ?_) AllReadyH.nil
                  go_simp
                  refine hK.out _ _ (hH1) (fun hH2 => ?_)
                  clear hK K
                  refine wpAnyH_ready (rs := [21]) (by kernel_rfl) (by simp) ?_
                  refine AllReadyH.cons rfl (fun K hK => ?_) AllReadyH.nil
                  go_simp
                  refine hK.out _ _ (hH2) (fun hH3 => ?_)
                  clear hK K
                  refine wpAnyH_done (by kernel_rfl) ?_ _
                  clear hHeld
                  go_wp2
                  go_roundw
                  case rel => exact ⟨j + 1, by omega, by go_num, (HD.out.1.new ((Upd.refl _ _).drew)).new ((Upd.refl _ _).drew), HD.out.2.drew.drew⟩
                  case measure => simp [intOf]; omega
                · rw [hfx] at c1
                  have c1 : w12.cell? ⟨q + 1, j, none⟩ = some (.int .i64 0) := c1
                  have v1 := (HEv.out.cell (j := j) (x := x) (by omega) (by omega)).1
                  rw [hevx] at v1
                  have hm1 : (if (x : Int) < 8 then (x : Int) else 8) = x := by split <;> omega
                  have hm2 : (if 0 < x then (x : Int) else 0) = x := by split <;> omega
                  have hx9 : (x : Int) < 9 := by omega
                  refine wp_region_held_drew (S := fun W => W.cell? ⟨q + 1, j, none⟩ = some (.int .i64 0)) (by kernel_rfl) (by rw [World.cell?_drew]; exact c1) (fun hHeld => ?_)
                  refine wpAnyH_take (i := 0) (v := ?_) rfl (by kernel_rfl) (by kernel_rfl) (by kernel_rfl) (fun _ _ _ h => h) (Or.inl ⟨by rfl, ?_⟩) hHeld ?_
                  rotate_left
                  · intro W hSw; (try dsimp only at hSw); (try go_split_ands); go_simp; (try with_reducible rfl)
                  simp only [List.getElem_toArray, List.getElem_cons_zero, Act.put, List.setIfInBounds_toArray, List.set_cons_zero, List.set_cons_succ]
                  refine wpAnyH_take (i := 1) (v := ?_) rfl (by kernel_rfl) (by kernel_rfl) (by kernel_rfl) (fun _ _ _ h => h) (Or.inl ⟨by rfl, ?_⟩) hHeld ?_
                  rotate_left
                  · intro W hSw; (try dsimp only at hSw); (try go_split_ands); go_simp; (try with_reducible rfl)
                  simp only [List.getElem_toArray, List.getElem_cons_succ, List.getElem_cons_zero, Act.put, List.setIfInBounds_toArray, List.set_cons_zero, List.set_cons_succ]
                  refine wpAnyH_take (i := 2) (v := ?_) rfl (by kernel_rfl) (by kernel_rfl) (by kernel_rfl) (fun _ _ _ h => h) (Or.inl ⟨by rfl, ?_⟩) hHeld ?_
                  rotate_left
                  · intro W hSw; (try dsimp only at hSw); (try go_split_ands); go_simp; (try with_reducible rfl)
                  simp only [List.getElem_toArray, List.getElem_cons_succ, List.getElem_cons_zero, Act.put, List.setIfInBounds_toArray, List.set_cons_zero, List.set_cons_succ]
                  refine wpAnyH_take (i := 3) (v := ?_) rfl (by kernel_rfl) (by kernel_rfl) (by kernel_rfl) (fun _ _ _ h => h) (Or.inl ⟨by rfl, ?_⟩) hHeld ?_
                  rotate_left
                  · intro W hSw; (try dsimp only at hSw); (try go_split_ands); go_simp; (try with_reducible rfl)
                  simp only [List.getElem_toArray, List.getElem_cons_succ, List.getElem_cons_zero, Act.put, List.setIfInBounds_toArray, List.set_cons_zero, List.set_cons_succ]
                  refine wpAnyH_take (i := 4) (v := ?_) rfl (by kernel_rfl) (by kernel_rfl) (by kernel_rfl) (fun _ _ _ h => h) (Or.inl ⟨by rfl, ?_⟩) hHeld ?_
                  rotate_left
                  · intro W hSw; (try dsimp only at hSw); (try go_split_ands); go_simp; (try with_reducible rfl)
                  simp only [List.getElem_toArray, List.getElem_cons_succ, List.getElem_cons_zero, Act.put, List.setIfInBounds_toArray, List.set_cons_zero, List.set_cons_succ]
                  refine' wpAnyH_take (i := 5) rfl (by kernel_rfl) (by kernel_rfl) (by kernel_rfl) (fun _ _ _ h => h) (Or.inr ⟨by rfl, rfl⟩) hHeld _
                  simp only [List.getElem_toArray, List.getElem_cons_succ, List.getElem_cons_zero, Act.put, List.setIfInBounds_toArray, List.set_cons_zero, List.set_cons_succ]
                  refine' wpAnyH_take (i := 6) rfl (by kernel_rfl) (by kernel_rfl) (by kernel_rfl) (fun _ _ _ h => h) (Or.inr ⟨by rfl, rfl⟩) hHeld _
                  simp only [List.getElem_toArray, List.getElem_cons_succ, List.getElem_cons_zero, Act.put, List.setIfInBounds_toArray, List.set_cons_zero, List.set_cons_succ]
                  refine' wpAnyH_take (i := 7) rfl (by kernel_rfl) (by kernel_rfl) (by kernel_rfl) (fun _ _ _ h => h) (Or.inr ⟨by rfl, rfl⟩) hHeld _
                  simp only [List.getElem_toArray, List.getElem_cons_succ, List.getElem_cons_zero, Act.put, List.setIfInBounds_toArray, List.set_cons_zero, List.set_cons_succ]
                  refine' wpAnyH_take (i := 8) rfl (by kernel_rfl) (by kernel_rfl) (by kernel_rfl) (fun _ _ _ h => h) (Or.inr ⟨by rfl, rfl⟩) hHeld _
                  simp only [List.getElem_toArray, List.getElem_cons_succ, List.getElem_cons_zero, Act.put, List.setIfInBounds_toArray, List.set_cons_zero, List.set_cons_succ]
                  refine' wpAnyH_take (i := 9) rfl (by kernel_rfl) (by kernel_rfl) (by kernel_rfl) (fun _ _ _ h => h) (Or.inr ⟨by rfl, rfl⟩) hHeld _
                  simp only [List.getElem_toArray, List.getElem_cons_succ, List.getElem_cons_zero, Act.put, List.setIfInBounds_toArray, List.set_cons_zero, List.set_cons_succ]
                  refine' wpAnyH_take (i := 10) rfl (by kernel_rfl) (by kernel_rfl) (by kernel_rfl) (fun _ _ _ h => h) (Or.inr ⟨by rfl, rfl⟩) hHeld _
                  simp only [List.getElem_toArray, List.getElem_cons_succ, List.getElem_cons_zero, Act.put, List.setIfInBounds_toArray, List.set_cons_zero, List.set_cons_succ]
                  refine' wpAnyH_take (i := 11) rfl (by kernel_rfl) (by kernel_rfl) (by kernel_rfl) (fun _ _ _ h => h) (Or.inr ⟨by rfl, rfl⟩) hHeld _
                  simp only [List.getElem_toArray, List.getElem_cons_succ, List.getElem_cons_zero, Act.put, List.setIfInBounds_toArray, List.set_cons_zero, List.set_cons_succ]
                  refine' wpAnyH_take (i := 12) rfl (by kernel_rfl) (by kernel_rfl) (by kernel_rfl) (fun _ _ _ h => h) (Or.inr ⟨by rfl, rfl⟩) hHeld _
                  simp only [List.getElem_toArray, List.getElem_cons_succ, List.getElem_cons_zero, Act.put, List.setIfInBounds_toArray, List.set_cons_zero, List.set_cons_succ]
                  refine' wpAnyH_take (i := 13) rfl (by kernel_rfl) (by kernel_rfl) (by kernel_rfl) (fun _ _ _ h => h) (Or.inr ⟨by rfl, rfl⟩) hHeld _
                  simp only [List.getElem_toArray, List.getElem_cons_succ, List.getElem_cons_zero, Act.put, List.setIfInBounds_toArray, List.set_cons_zero, List.set_cons_succ]
                  refine' wpAnyH_take (i := 14) rfl (by kernel_rfl) (by kernel_rfl) (by kernel_rfl) (fun _ _ _ h => h) (Or.inr ⟨by rfl, rfl⟩) hHeld _
                  simp only [List.getElem_toArray, List.getElem_cons_succ, List.getElem_cons_zero, Act.put, List.setIfInBounds_toArray, List.set_cons_zero, List.set_cons_succ]
                  refine' wpAnyH_take (i := 15) rfl (by kernel_rfl) (by kernel_rfl) (by kernel_rfl) (fun _ _ _ h => h) (Or.inr ⟨by rfl, rfl⟩) hHeld _
                  simp only [List.getElem_toArray, List.getElem_cons_succ, List.getElem_cons_zero, Act.put, List.setIfInBounds_toArray, List.set_cons_zero, List.set_cons_succ]
                  refine' wpAnyH_take (i := 16) rfl (by kernel_rfl) (by kernel_rfl) (by kernel_rfl) (fun _ _ _ h => h) (Or.inr ⟨by rfl, rfl⟩) hHeld _
                  simp only [List.getElem_toArray, List.getElem_cons_succ, List.getElem_cons_zero, Act.put, List.setIfInBounds_toArray, List.set_cons_zero, List.set_cons_succ]
                  refine wpAnyH_ready (rs := [17]) (by kernel_rfl) (by simp) ?_
                  refine AllReadyH.cons rfl (fun K hK => ?_) AllReadyH.nil
                  go_simp
                  refine hK.out _ _ (hHeld) (fun hH1 => ?_)
                  clear hK K
                  refine wpAnyH_done (by kernel_rfl) ?_ _
                  have v1' : w12.drew.cell? ⟨q + 2, j * 9 + x, none⟩ = some (.bool true) := by rw [World.cell?_drew]; exact v1
                  have d2' : w12.drew.cell? ⟨w11.heap.size, 2, none⟩ = some (.int .i64 (x : Int)) := by rw [World.cell?_drew]; exact d2
                  clear hHeld c1 v1 d2 r0 rne
                  go_upto_region 41 with fail
                  refine wp_region_held_drew (S := fun W => W.cell? ⟨q + 2, j * 9 + x, none⟩ = some (.bool true) ∧ W.cell? ⟨w11.heap.size, 2, none⟩ = some (.int .i64 (x : Int))) (by kernel_rfl) (⟨by rw [World.cell?_drew]; exact v1', by rw [World.cell?_drew]; exact d2'⟩) (fun hHeld => ?_)
                  refine wpAnyH_take (i := 0) (v := ?_) rfl (by kernel_rfl) (by kernel_rfl) (by kernel_rfl) (fun _ _ _ h => h) (Or.inl ⟨by rfl, ?_⟩) hHeld ?_
                  rotate_left
                  · intro W hSw; (try dsimp only at hSw); (try go_split_ands); go_simp; (try with_reducible rfl)
                  simp only [List.getElem_toArray, List.getElem_cons_zero, Act.put, List.setIfInBounds_toArray, List.set_cons_zero, List.set_cons_succ]
                  refine wpAnyH_take (i := 1) (v := ?_) rfl (by kernel_rfl) (by kernel_rfl) (by kernel_rfl) (fun _ _ _ h => h) (Or.inl ⟨by rfl, ?_⟩) hHeld ?_
                  rotate_left
                  · intro W hSw; (try dsimp only at hSw); (try go_split_ands); go_simp; (try with_reducible rfl)
                  simp only [List.getElem_toArray, List.getElem_cons_succ, List.getElem_cons_zero, Act.put, List.setIfInBounds_toArray, List.set_cons_zero, List.set_cons_succ]
                  refine wpAnyH_take (i := 2) (v := ?_) rfl (by kernel_rfl) (by kernel_rfl) (by kernel_rfl) (fun _ _ _ h => h) (Or.inl ⟨by rfl, ?_⟩) hHeld ?_
                  rotate_left
                  · intro W hSw; (try dsimp only at hSw); (try go_split_ands); go_simp; (try with_reducible rfl)
                  simp only [List.getElem_toArray, List.getElem_cons_succ, List.getElem_cons_zero, Act.put, List.setIfInBounds_toArray, List.set_cons_zero, List.set_cons_succ]
                  refine' wpAnyH_take (i := 3) rfl (by kernel_rfl) (by kernel_rfl) (by kernel_rfl) (fun _ _ _ h => h) (Or.inr ⟨by rfl, rfl⟩) hHeld _
                  simp only [List.getElem_toArray, List.getElem_cons_succ, List.getElem_cons_zero, Act.put, List.setIfInBounds_toArray, List.set_cons_zero, List.set_cons_succ]
                  refine' wpAnyH_take (i := 4) rfl (by kernel_rfl) (by kernel_rfl) (by kernel_rfl) (fun _ _ _ h => h) (Or.inr ⟨by rfl, rfl⟩) hHeld _
                  simp only [List.getElem_toArray, List.getElem_cons_succ, List.getElem_cons_zero, Act.put, List.setIfInBounds_toArray, List.set_cons_zero, List.set_cons_succ]
                  refine wpAnyH_ready (rs := [5]) (by kernel_rfl) (by simp) ?_
                  refine AllReadyH.cons rfl (fun K hK => ?_) AllReadyH.nil
                  go_simp
                  refine hK.out _ _ (hHeld) (fun hH1 => ?_)
                  clear hK K
                  refine wpAnyH_take (i := 6) (v := ?_) rfl (by kernel_rfl) (by kernel_rfl) (by kernel_rfl) (fun _ _ _ h => h) (Or.inl ⟨by rfl, ?_⟩) hH1 ?_
                  rotate_left
                  · intro W hSw; (try dsimp only at hSw); (try go_split_ands); go_simp; (try with_reducible rfl)
                  simp only [List.getElem_toArray, List.getElem_cons_succ, List.getElem_cons_zero, Act.put, List.setIfInBounds_toArray, List.set_cons_zero, List.set_cons_succ]
                  refine wpAnyH_take (i := 7) (v := ?_) rfl (by kernel_rfl) (by kernel_rfl) (by kernel_rfl) (fun _ _ _ h => h) (Or.inl ⟨by rfl, ?_⟩) hH1 ?_
                  rotate_left
                  · intro W hSw; (try dsimp only at hSw); (try go_split_ands); go_simp; (try with_reducible rfl)
                  simp only [List.getElem_toArray, List.getElem_cons_succ, List.getElem_cons_zero, Act.put, List.setIfInBounds_toArray, List.set_cons_zero, List.set_cons_succ]
                  refine wpAnyH_take (i := 8) (v := ?_) rfl (by kernel_rfl) (by kernel_rfl) (by kernel_rfl) (fun _ _ _ h => h) (Or.inl ⟨by rfl, ?_⟩) hH1 ?_
                  rotate_left
                  · intro W hSw; (try dsimp only at hSw); (try go_split_ands); go_simp; (try with_reducible rfl)
                  simp only [List.getElem_toArray, List.getElem_cons_succ, List.getElem_cons_zero, Act.put, List.setIfInBounds_toArray, List.set_cons_zero, List.set_cons_succ]
                  refine wpAnyH_take (i := 9) (v := ?_) rfl (by kernel_rfl) (by kernel_rfl) (by kernel_rfl) (fun _ _ _ h => h) (Or.inl ⟨by rfl, ?_⟩) hH1 ?_
                  rotate_left
                  · intro W hSw; (try dsimp only at hSw); (try go_split_ands); go_simp; (try with_reducible rfl)
                  simp only [List.getElem_toArray, List.getElem_cons_succ, List.getElem_cons_zero, Act.put, List.setIfInBounds_toArray, List.set_cons_zero, List.set_cons_succ]
                  refine wpAnyH_take (i := 10) (v := ?_) rfl (by kernel_rfl) (by kernel_rfl) (by kernel_rfl) (fun _ _ _ h => h) (Or.inl ⟨by rfl, ?_⟩) hH1 ?_
                  rotate_left
                  · intro W hSw; (try dsimp only at hSw); (try go_split_ands); go_simp; (try with_reducible rfl)
                  simp only [List.getElem_toArray, List.getElem_cons_succ, List.getElem_cons_zero, Act.put, List.setIfInBounds_toArray, List.set_cons_zero, List.set_cons_succ]
                  refine wpAnyH_take (i := 11) (v := ?_) rfl (by kernel_rfl) (by kernel_rfl) (by kernel_rfl) (fun _ _ _ h => h) (Or.inl ⟨by rfl, ?_⟩) hH1 ?_
                  rotate_left
                  · intro W hSw; (try dsimp only at hSw); (try go_split_ands); go_simp; (try with_reducible rfl)
                  simp only [List.getElem_toArray, List.getElem_cons_succ, List.getElem_cons_zero, Act.put, List.setIfInBounds_toArray, List.set_cons_zero, List.set_cons_succ]
                  refine wpAnyH_take (i := 12) (v := ?_) rfl (by kernel_rfl) (by kernel_rfl) (by kernel_rfl) (fun _ _ _ h => h) (Or.inl ⟨by rfl, ?_⟩) hH1 ?_
                  rotate_left
                  · intro W hSw; (try dsimp only at hSw); (try go_split_ands); go_simp; (try with_reducible rfl)
                  simp only [List.getElem_toArray, List.getElem_cons_succ, List.getElem_cons_zero, Act.put, List.setIfInBounds_toArray, List.set_cons_zero, List.set_cons_succ]
                  refine wpAnyH_take (i := 13) (v := ?_) rfl (by kernel_rfl) (by kernel_rfl) (by kernel_rfl) (fun _ _ _ h => h) (Or.inl ⟨by rfl, ?_⟩) hH1 ?_
                  rotate_left
                  · intro W hSw; (try dsimp only at hSw); (try go_split_ands); go_simp; (try with_reducible rfl)
                  simp only [List.getElem_toArray, List.getElem_cons_succ, List.getElem_cons_zero, Act.put, List.setIfInBounds_toArray, List.set_cons_zero, List.set_cons_succ]
                  refine wpAnyH_take (i := 14) (v := ?_) rfl (by kernel_rfl) (by kernel_rfl) (by kernel_rfl) (fun _ _ _ h => h) (Or.inl ⟨by rfl, ?_⟩) hH1 ?_
                  rotate_left
                  · intro W hSw; (try dsimp only at hSw); (try go_split_ands); go_simp; (try with_reducible rfl)
                  simp only [List.getElem_toArray, List.getElem_cons_succ, List.getElem_cons_zero, Act.put, List.setIfInBounds_toArray, List.set_cons_zero, List.set_cons_succ]
                  refine wpAnyH_take (i := 15) (v := ?_) rfl (by kernel_rfl) (by kernel_rfl) (by kernel_rfl) (fun _ _ _ h => h) (Or.inl ⟨by rfl, ?_⟩) hH1 ?_
                  rotate_left
                  · intro W hSw; (try dsimp only at hSw); (try go_split_ands); go_simp; (try with_reducible rfl)
                  simp only [List.getElem_toArray, List.getElem_cons_succ, List.getElem_cons_zero, Act.put, List.setIfInBounds_toArray, List.set_cons_zero, List.set_cons_succ]
                  refine wpAnyH_take (i := 16) (v := ?_) rfl (by kernel_rfl) (by kernel_rfl) (by kernel_rfl) (fun _ _ _ h => h) (Or.inl ⟨by rfl, ?_⟩) hH1 ?_
                  rotate_left
                  · intro W hSw; (try dsimp only at hSw); (try go_split_ands); go_simp; (try with_reducible rfl)
                  simp only [List.getElem_toArray, List.getElem_cons_succ, List.getElem_cons_zero, Act.put, List.setIfInBounds_toArray, List.set_cons_zero, List.set_cons_succ]
                  refine wpAnyH_take (i := 17) (v := ?_) rfl (by kernel_rfl) (by kernel_rfl) (by kernel_rfl) (fun _ _ _ h => h) (Or.inl ⟨by rfl, ?_⟩) hH1 ?_
                  rotate_left
                  · intro W hSw; (try dsimp only at hSw); (try go_split_ands); go_simp; (try with_reducible rfl)
                  simp only [List.getElem_toArray, List.getElem_cons_succ, List.getElem_cons_zero, Act.put, List.setIfInBounds_toArray, List.set_cons_zero, List.set_cons_succ]
                  refine wpAnyH_take (i := 18) (v := ?_) rfl (by kernel_rfl) (by kernel_rfl) (by kernel_rfl) (fun _ _ _ h => h) (Or.inl ⟨by rfl, ?_⟩) hH1 ?_
                  rotate_left
                  · intro W hSw; (try dsimp only at hSw); (try go_split_ands); go_simp; (try with_reducible rfl)
                  simp only [List.getElem_toArray, List.getElem_cons_succ, List.getElem_cons_zero, Act.put, List.setIfInBounds_toArray, List.set_cons_zero, List.set_cons_succ]
                  refine wpAnyH_take (i := 19) (v := ?_) rfl (by kernel_rfl) (by kernel_rfl) (by kernel_rfl) (fun _ _ _ h => h) (Or.inl ⟨by rfl, ?_⟩) hH1 ?_
                  rotate_left
                  · intro W hSw; (try dsimp only at hSw); (try go_split_ands); go_simp; (try with_reducible rfl)
                  simp only [List.getElem_toArray, List.getElem_cons_succ, List.getElem_cons_zero, Act.put, List.setIfInBounds_toArray, List.set_cons_zero, List.set_cons_succ]
                  refine wpAnyH_ready (rs := [20]) (by kernel_rfl) (by simp) ?_
                  refine AllReadyH.cons rfl (fun K hK => ?_) AllReadyH.nil
                  go_simp
                  refine hK.out _ _ (hH1) (fun hH2 => ?_)
                  clear hK K
                  refine wpAnyH_ready (rs := [21]) (by kernel_rfl) (by simp) ?_
                  refine AllReadyH.cons rfl (fun K hK => ?_) AllReadyH.nil
                  go_simp
                  refine hK.out _ _ (hH2) (fun hH3 => ?_)
                  clear hK K
                  refine wpAnyH_done (by kernel_rfl) ?_ _
                  clear hHeld v1' d2' hm1 hm2
                  go_wp2
                  go_roundw
                  case rel => exact ⟨j + 1, by omega, by go_num, (HD.out.1.new ((Upd.refl _ _).drew)).new ((Upd.refl _ _).drew), HD.out.2.drew.drew⟩
                  case measure => simp [intOf]; omega
              · obtain rfl : j = k := by omega
                have hbx : Below w.heap.size w wr := below_upd H10.out.2.2.2.2.2.2.2.1 hux (Nat.le_refl _) (fun i h => by have := H10.out.2.2.2.1 i h; have := HZ7.out; omega)
                have HX9 := Lib.hid hbx
                clear hux hbx hdx
                go_wp2_with fail
                refine (awake17 _ (HT.out.1.below HX9.out) (HT.out.2.1.below HX9.out)).mono ?_
                rintro e w13 ⟨rfl, hb13⟩
                have HB13 := Lib.hid (HX9.out.trans (hb13.mono HX9.out.size))
                clear hb13
                go_wp2
                go_ret
                exact ⟨rfl, HB13.out⟩
  · have hc : sectors < 1 ∨ (1 ≤ sectors ∧ 12 < sectors) ∨ (1 ≤ sectors ∧ sectors ≤ 12 ∧ Hid (rightB l = false)) ∨ (1 ≤ sectors ∧ sectors ≤ 12 ∧ Hid (rightB l = true) ∧ bits < 0) := by
      by_cases a1 : 1 ≤ sectors
      · by_cases a2 : sectors ≤ 12
        · rcases Bool.eq_false_or_eq_true (rightB l) with hb | hb
          · exact .inr (.inr (.inr ⟨a1, a2, hb, by
              by_cases hb0 : 0 ≤ bits
              · exact absurd ⟨a1, a2, hb, hb0⟩ hr
              · omega⟩))
          · exact .inr (.inr (.inl ⟨a1, a2, hb⟩))
        · exact .inr (.inl ⟨a1, by omega⟩)
      · exact .inl (by omega)
    clear hr nib tur h1 h3 hl
    go_enter Tryz.func5, Tryz.ntmps5
    rcases hc with p1 | ⟨p1, p2⟩ | ⟨p1, p2, p3⟩ | ⟨p1, p2, p3, p4⟩
    all_goals
      try rw [p3.out] at HRt
      go_wp2_with (first
        | (go_at_call 29; refine HRt.out.mono ?_; rintro e w0 ⟨rfl, hw0⟩; rw [hw0]; clear hw0 w0)
        | fail)
      refine HAW.out.mono ?_
      rintro e w3 ⟨rfl, hb3⟩
      have HB3 := Lib.hid hb3
      clear hb3
      go_wp2
      go_ret
      exact ⟨rfl, HB3.out⟩
end Go.Proofs.YtnadilfobmgebaaGreatDoor.logsLasts
