/- A device: Read, Firm. A device: Firm. A device's calls, as functions of its state. Plan of an admissible superblock, Need. -/
import Derived.Test.YtnadilfobmgebaaGreatDoorG02
import Derived.BigQuiet
import Derived.Deep.QuietTactic
namespace Go.Proofs.YtnadilfobmgebaaGreatDoor
open Go Go.RowKit
def curB (F : List Bk) (O : List (Nat × Bk)) (s : Nat) : Bk := (flushF F O).getD s zB
theorem flushF_app (F : List Bk) (O O' : List (Nat × Bk)) : flushF F (O ++ O') = flushF (flushF F O) O' := by simp [flushF]
theorem flushF_skip {F : List Bk} {O : List (Nat × Bk)} {s : Nat} (h : ∀ p ∈ O, p.1 ≠ s) : (flushF F O)[s]? = F[s]? := by
  induction O generalizing F with
  | nil => rfl
  | cons p O ih =>
    have := ih (F := F.set p.1 p.2) (fun q hq => h q (by simp [hq]))
    simp only [flushF, List.foldl_cons] at this ⊢
    rw [this, List.getElem?_set_ne (h p (by simp))]
theorem curB_skip {F : List Bk} {O : List (Nat × Bk)} {s k : Nat} (h : ∀ p ∈ O.drop k, p.1 ≠ s) : curB F O s = curB F (O.take k) s := by
  unfold curB
  have : flushF F O = flushF (flushF F (O.take k)) (O.drop k) := by rw [← flushF_app, List.take_append_drop]
  rw [this, List.getD_eq_getElem?_getD, flushF_skip h, ← List.getD_eq_getElem?_getD]
theorem curB_hit {F : List Bk} {O : List (Nat × Bk)} {s k : Nat} (hk : k < O.length) (hs : s < F.length) (h0 : O[k].1 = s) (h : ∀ p ∈ O.drop (k + 1), p.1 ≠ s) : curB F O s = O[k].2 := by
  rw [curB_skip h]
  unfold curB
  rw [flushF_take hk, h0, List.getD_eq_getElem?_getD, List.getElem?_set_self (by rw [flushF_len]; exact hs)]; rfl
theorem curB_none {F : List Bk} {O : List (Nat × Bk)} {s : Nat} (hs : s < F.length) (h : ∀ p ∈ O, p.1 ≠ s) : curB F O s = F[s] := by
  rw [curB_skip (k := 0) (by simpa using h)]
  simp [curB, flushF, hs]
theorem curB_len {F : List Bk} {O : List (Nat × Bk)} {P : List Int} (h : DvGood F O P) (s : Nat) : (curB F O s).length = 64 := by
  unfold curB
  have : ∀ (O : List (Nat × Bk)) (F : List Bk), All64 F → (∀ p ∈ O, p.2.length = 64) → All64 (flushF F O) := by
    intro O
    induction O with
    | nil => intro F h _; exact h
    | cons p O ih => intro F hF hO; exact ih _ (hF.set p.1 (hO p (by simp))) (fun q hq => hO q (by simp [hq]))
  have h2 := this O F h.f64 (fun p hp => (h.o64 p hp).1)
  by_cases hs : s < (flushF F O).length
  · rw [List.getD_eq_getElem?_getD, List.getElem?_eq_getElem hs]; exact h2 _ (List.getElem_mem hs)
  · rw [List.getD_eq_getElem?_getD, List.getElem?_eq_none (by omega)]; exact zB_len
theorem dread0 (w : World) : Calls Tryz.prog 95 #[] w fun e w' => e = .returned (.tuple #[]) ∧ w' = w := by
  go_enter Tryz.func95, Tryz.ntmps95
  go_wp2
  go_end0
  exact ⟨rfl, rfl⟩
theorem bkC_size (x : Bk) (hx : x.length = 64) : (bkC x).toArray.size = 64 := by simp [bkC_len, hx]
def ReadPost (S : Nat → Prop) (w : World) (b : Nat) (F : List Bk) (O : List (Nat × Bk)) (P : List Int) (s : Int) (e : Ending) (w' : World) : Prop :=
  (hasC F.length s ≠ 0 ∧ e = .returned (.tuple #[bkV zB, .int .i64 (hasC F.length s)]) ∧ Dv S w' b F O P ∧ Upd S w w') ∨
  (hasC F.length s = 0 ∧ fate P = 1 ∧ e = .returned (.tuple #[bkV zB, .int .i64 19]) ∧ Dv S w' b F O P.tail ∧ Upd S w w') ∨
  (hasC F.length s = 0 ∧ fate P ≠ 1 ∧ e = .returned (.tuple #[bkV (curB F O s.toNat), .int .i64 0]) ∧ Dv S w' b F O P.tail ∧ Upd S w w')
theorem sizeBk' : (Tryz.prog.info? 23).map (·.size) = some 64 := sizeBk zB zB_len
set_option maxRecDepth 100000 in
set_option maxHeartbeats 1000000 in
theorem dread {S : Nat → Prop} {w : World} {b : Nat} {F : List Bk} {O : List (Nat × Bk)} {P : List Int} (h : Dv S w b F O P) (hn : ∀ j, w.heap.size ≤ j → S j) (s : Int) :
    Calls Tryz.prog 49 #[.pointer (some ⟨b, 0, none⟩), .int .i64 s] w (ReadPost S w b F O P s) := by
  have H := Lib.hid (And.intro h hn)
  clear h hn
  go_enter Tryz.func49, Tryz.ntmps49
  go_wp2
  go_step3
  go_wp2_with fail
  show Calls _ _ _ (w.alloc (.cells (bkC zB).toArray 23)) _
  have hu1 : Upd (fun _ => False) w (w.alloc (.cells (bkC zB).toArray 23)) := (Upd.refl _ w).alloc _
  have hg1 : (w.alloc (.cells (bkC zB).toArray 23)).heap[w.heap.size]? = some (.cells (bkC zB).toArray 23) := heap_alloc_last _ _ rfl
  have hs1 : (w.alloc (.cells (bkC zB).toArray 23)).heap.size = w.heap.size + 1 := by simp
  generalize w.alloc (.cells (bkC zB).toArray 23) = w1 at *
  obtain ⟨hd0, hn⟩ := H.out
  obtain ⟨hSb, hlb⟩ := hd0.sb
  have hd1 : Dv (fun j => (S j ∧ j < w.heap.size) ∨ w.heap.size + 1 ≤ j) w1 b F O P := (hd0.shrink (fun j hj hl => .inl ⟨hj, hl⟩)).keep hu1 (fun _ _ h => h)
  have hS' : ∀ j, ((S j ∧ j < w.heap.size) ∨ w.heap.size + 1 ≤ j) → S j := by
    rintro j (⟨h, -⟩ | h)
    · exact h
    · exact hn j (by omega)
  have HX := Lib.hid (And.intro hd1 (And.intro hu1 (And.intro hg1 (And.intro hs1 (And.intro hS' (And.intro hSb hlb))))))
  clear hd1 hu1 hg1 hs1 hS' hSb hlb hd0 hn
  refine (dhas HX.out.1 s).mono ?_
  rintro e w4 ⟨rfl, rfl⟩
  by_cases hz : hasC F.length s = 0
  · have HZ := Lib.hid hz
    rw [hz]
    clear hz
    go_wp2_with fail
    refine (dcall HX.out.1 19 95 #[] (fun W => Dv (fun j => (S j ∧ j < w.heap.size) ∨ w.heap.size + 1 ≤ j) W b F O P.tail ∧ Upd (fun j => j = b) w4 W) (fun _ _ => rfl) ?_).mono ?_
    · intro h0 w1 hd1 hu1
      refine (dread0 w1).mono ?_
      rintro e w' ⟨rfl, rfl⟩
      exact ⟨rfl, hd1, hu1⟩
    · obtain ⟨hd1, hu1, hg1, hs1, hS', hSb, hlb⟩ := HX.out
      rintro e w5 h5
      have H5 : Hid (Dv (fun j => (S j ∧ j < w.heap.size) ∨ w.heap.size + 1 ≤ j) w5 b F O P.tail ∧ Upd (fun j => j = b) w4 w5) := by
        rcases h5 with ⟨-, -, a, b⟩ | ⟨-, -, a, b⟩ | ⟨-, -, -, a, b⟩ <;> exact ⟨a, b⟩
      have hth : w5.there w.heap.size 0 64 := fun j hj => by
        have hg5 := (H5.out.2.block w.heap.size (by omega) (by omega)).trans hg1
        rw [cell_of_block hg5, frozen_of_block hg5]
        exact ⟨by rw [Nat.zero_add, Array.getElem?_eq_getElem (by simp [bkC_len, zB_len]; omega)]; rfl, rfl⟩
      have hlow : Hid (Upd S w w5) := (hu1.mono (fun _ _ h => h.elim)).trans (H5.out.2.mono (fun j _ e => e ▸ hSb))
      have hw5 := H5.out.2.size
      clear hd1 hu1 hg1
      have h6 : (fate P = 1 ∧ e = .returned (.int .i64 19)) ∨ (fate P ≠ 1 ∧ e = .returned (.int .i64 0)) := by
        rcases h5 with ⟨h1, rfl, -, -⟩ | ⟨h0, rfl, -, -⟩ | ⟨h0, h1, rfl, -, -⟩
        · exact .inl ⟨h1, rfl⟩
        · exact .inr ⟨by omega, rfl⟩
        · exact .inr ⟨h1, rfl⟩
      clear h5
      rcases h6 with ⟨h1, rfl⟩ | ⟨h1, rfl⟩
      · have H1 := Lib.hid h1
        clear h1 hs1 hS' hSb hlb hw5
        go_wp2_with (first
          | (refine wpList_store_mid rfl _ _ _ rfl _ _ (bkC zB).toArray rfl rfl (by rw [bkC_size _ zB_len]; exact hth) (by rw [bkC_size _ zB_len]; exact sizeBk') (all_oneCell_toArray (bkC_one _)) ?_)
          | fail)
        rw [Exit.noGoto_ret]
        refine bodyPost_ret (results_mid2 rfl _ _ w.heap.size 0 (bkC zB) _ rfl (World.rangeAt_setCells_same _ _ _ _ (by rw [bkC_len, zB_len]; exact hth)) Tryz.underlying23 rfl (sizeBk zB zB_len)) rfl (.inr (.inl ⟨HZ.out, H1.out, rfl, ?_, ?_⟩))
        · exact (H5.out.1.keep (upd_row _ _ _ _) (by rintro j (⟨-, h⟩ | h) e <;> omega)).wide (by obtain ⟨-, -, -, -, hS', -⟩ := HX.out; exact hS')
        · exact hlow.out.trans ((upd_row _ _ _ _).mono (fun j _ e => e ▸ H.out.2 _ (Nat.le_refl _)))
      · have H1 := Lib.hid h1
        clear h1
        obtain ⟨n, rfl⟩ : ∃ n : Nat, s = n := ⟨s.toNat, (hasC_zero HZ.out).1.symm⟩
        have hsn := (hasC_zero HZ.out).2
        rw [Int.toNat_natCast] at hsn
        obtain ⟨vf, vo, vp, hd5, hS5⟩ := H5.out.1
        obtain ⟨gF, oF, cF, rfl, hgF, hcF, rF, tF⟩ := hd5.fiRange hsn
        obtain ⟨ao, co, rfl⟩ := hd5.os.rd.nil_iff
        obtain ⟨e0, e1, e2⟩ := hd5.c
        have hfl := hd5.good.fl
        have hol := hd5.good.ol
        have hx : (F[n]).length = 64 := hd5.good.f64 _ (List.getElem_mem hsn)
        have hua : Upd (fun _ => False) w5 (w5.alloc (.cells (bkC F[n]).toArray 23)) := (Upd.refl _ _).alloc _
        have hd6 := hd5.new hua
        have hg6 := heap_alloc_last w5 (.cells (bkC F[n]).toArray 23) rfl
        have hth6 := World.there_alloc hth (.cells (bkC F[n]).toArray 23)
        have e16 := hd6.c.2.1
        have hb1 : 0 ≤ (n : Int) ∧ (n : Int) < F.length := ⟨by omega, by omega⟩
        have hse : Hid ((bkC F[n]).length = 64) := by show _ = _; rw [bkC_len, hx]
        have hse2 : Hid (F[n].length = 64) := hx
        have HD := Lib.hid (And.intro hd6 (And.intro hS5 (And.intro hua (And.intro hg6 (And.intro hth6 (And.intro hw5 (And.intro hs1 (And.intro hS' (And.intro hSb hlb)))))))))
        clear hd5 hS5 hx tF hgF hcF hd6 hua hg6 hth6 hw5 hs1 hS' hSb hlb hth
        obtain ⟨hb1, hb2⟩ := hb1
        go_wp2_with (first
          | (refine wpList_load_mid rfl _ _ rfl _ _ rfl _ _ rF Tryz.underlying23 rfl (sizeBk _ hse2.out) ?_)
          | (refine wpList_store_new rfl _ _ _ rfl _ _ _ rfl rfl hse.out.symm (sizeBk _ hse2.out) (bkC_one _) ?_)
          | fail)
        clear e0 e1 e2 rF
        generalize w5.alloc (.cells (bkC F[n]).toArray 23) = w6 at *
        go_step3
        go_wp2
        go_loop [9] (fun i => ∃ k : Nat, k ≤ O.length ∧ i = .int .i64 ((k : Int) - 1) ∧ ∀ p ∈ O.drop k, p.1 ≠ n) (fun i => (intOf i + 1).toNat)
        case atStart => exact ⟨O.length, Nat.le_refl _, rfl, by simp⟩
        case round =>
          obtain ⟨k, hk, rfl, hno⟩ := hrel
          have HN : Hid (∀ p ∈ O.drop k, p.1 ≠ n) := hno
          clear hno
          cases k with
          | zero =>
            obtain ⟨hd6, hS5, hua, hg6, hth6, hw5, hs1, hS', hSb, hlb⟩ := HD.out
            have r6 := range_of_block hg6
            have hzero : Hid (curB F O n = F[n]) := curB_none hsn (by have := HN.out; simpa using this)
            have hst : w6.there w.heap.size 0 (bkC F[n]).toArray.size := by rw [bkC_size _ hse2.out]; exact hth6
            have hsz2 : (Tryz.prog.info? 23).map (·.size) = some (bkC F[n]).toArray.size := by rw [bkC_size _ hse2.out]; exact sizeBk'
            have HST := Lib.hid (And.intro hst hsz2)
            clear hd6 hS5 hua hg6 hs1 hS' hSb hlb hst hsz2
            simp only [Int.natCast_zero]
            go_wp2_with (first
              | (refine wpList_load_mid rfl _ _ rfl _ _ rfl _ _ r6 Tryz.underlying23 rfl (sizeBk _ hse2.out) ?_)
              | (refine wpList_store_mid rfl _ _ _ rfl _ _ (bkC F[n]).toArray rfl rfl HST.out.1 HST.out.2 (all_oneCell_toArray (bkC_one _)) ?_)
              | fail)
            try rw [Exit.noGoto_ret]
            refine bodyPost_ret (results_mid2 rfl _ _ w.heap.size 0 (bkC F[n]) _ rfl (World.rangeAt_setCells_same _ _ _ _ (by rw [hse.out]; exact hth6)) Tryz.underlying23 rfl (sizeBk _ hse2.out)) rfl (.inr (.inr ⟨HZ.out, H1.out, by rw [Int.toNat_natCast, hzero.out]; rfl, ?_, ?_⟩))
            · obtain ⟨hd6, hS5, hua, hg6, hth6, hw5, hs1, hS', hSb, hlb⟩ := HD.out
              exact (Dv.keep ⟨_, _, _, hd6, hS5⟩ (upd_row _ _ _ _) (by rintro j (⟨-, h⟩ | h) e <;> omega)).wide hS'
            · obtain ⟨hd6, hS5, hua, hg6, hth6, hw5, hs1, hS', hSb, hlb⟩ := HD.out
              exact (hlow.out.trans (hua.mono (fun _ _ h => h.elim))).trans ((upd_row _ _ _ _).mono (fun j _ e => e ▸ H.out.2 _ (Nat.le_refl _)))
          | succ k =>
            have hlt : k < O.length := by omega
            have ek : ((k + 1 : Nat) : Int) - 1 = (k : Int) := by omega
            rw [ek]
            clear ek
            obtain ⟨hd6, hS5, hua, hg6, hth6, hw5, hs1, hS', hSb, hlb⟩ := HD.out
            obtain ⟨gO, oO, cO, e2, hgO, hcO, rO⟩ := hd6.opRange hlt
            obtain ⟨rfl, rfl⟩ : ao = some ⟨gO, oO, none⟩ ∧ co = cO := by injection e2 with e1 _ e2; exact ⟨e1, e2⟩
            clear e2
            obtain ⟨s', x', hO⟩ : ∃ s x, O[k] = (s, x) := ⟨_, _, rfl⟩
            have hx' : x'.length = 64 := by have := (hd6.good.o64 O[k] (List.getElem_mem hlt)).1; rw [hO] at this; exact this
            rw [hO] at rO
            have HO := Lib.hid hO
            clear hO
            have c0 := rO 0 _ rfl
            have r1 : w6.rangeAt gO (oO + k * 65 + 1) (bkC x') := fun j v hv => by
              have := rO (1 + j) v (by rw [Nat.add_comm]; exact hv)
              rw [← Nat.add_assoc] at this; exact this
            rw [Nat.add_zero] at c0
            have hO1 : 0 ≤ (k : Int) ∧ (k : Int) < O.length := ⟨by omega, by omega⟩
            clear hd6 hS5 hua hw5 hs1 hS' hSb hlb rO hgO hcO
            by_cases heq : s' = n
            · subst heq
              have hcur : Hid (curB F O s' = x') := by
                have := curB_hit hlt hsn (by rw [HO.out]) HN.out
                rw [HO.out] at this; exact this
              obtain ⟨gx, hgx⟩ : ∃ g, g = w5.heap.size := ⟨_, rfl⟩
              have hst6 : w6.there w5.heap.size 0 (bkC x').toArray.size := by
                rw [bkC_size _ hx']
                intro j hj
                rw [cell_of_block hg6, frozen_of_block hg6]
                exact ⟨by rw [Nat.zero_add, Array.getElem?_eq_getElem (by rw [bkC_size _ hse2.out]; exact hj)]; rfl, rfl⟩
              have hsz2 : (Tryz.prog.info? 23).map (·.size) = some (bkC x').toArray.size := by rw [bkC_size _ hx']; exact sizeBk'
              have h7 : (w6.setCells w5.heap.size 0 (bkC x')).rangeAt w5.heap.size 0 (bkC x') := World.rangeAt_setCells_same _ _ _ _ (by rw [bkC_size _ hx'] at hst6; rw [bkC_len, hx']; exact hst6)
              have hth7 : (w6.setCells w5.heap.size 0 (bkC x')).there w.heap.size 0 (bkC x').toArray.size := by rw [bkC_size _ hx']; exact World.there_setCells hth6 _ _ _
              have HST := Lib.hid (And.intro hst6 (And.intro hsz2 (And.intro h7 (And.intro hth7 hx'))))
              clear hst6 hsz2 h7 hth7 hgx hx'
              go_wp2_with (first
                | (refine wpList_load_mid rfl _ _ rfl _ _ rfl _ _ r1 Tryz.underlying23 rfl (sizeBk _ HST.out.2.2.2.2) ?_)
                | (refine wpList_load_mid rfl _ _ rfl _ _ rfl _ _ HST.out.2.2.1 Tryz.underlying23 rfl (sizeBk _ HST.out.2.2.2.2) ?_)
                | (refine wpList_store_mid rfl _ _ _ rfl _ _ (bkC x').toArray rfl rfl HST.out.1 HST.out.2.1 (all_oneCell_toArray (bkC_one _)) ?_)
                | (refine wpList_store_mid rfl _ _ _ rfl _ _ (bkC x').toArray rfl rfl HST.out.2.2.2.1 HST.out.2.1 (all_oneCell_toArray (bkC_one _)) ?_)
                | fail)
              have hth8 : (w6.setCells w5.heap.size 0 (bkC x')).there w.heap.size 0 (bkC x').length := by rw [bkC_len, HST.out.2.2.2.2]; exact World.there_setCells hth6 _ _ _
              refine bodyPost_ret (results_mid2 rfl _ _ w.heap.size 0 (bkC x') _ rfl (World.rangeAt_setCells_same _ _ _ _ hth8) Tryz.underlying23 rfl (sizeBk _ HST.out.2.2.2.2)) rfl (.inr (.inr ⟨HZ.out, H1.out, by rw [Int.toNat_natCast, hcur.out]; rfl, ?_, ?_⟩))
              · obtain ⟨hd6, hS5, hua, hg6, hth6, hw5, hs1, hS', hSb, hlb⟩ := HD.out
                have hv : Dv (fun j => ((S j ∧ j < w.heap.size) ∨ w.heap.size + 1 ≤ j) ∧ j < w5.heap.size) w6 b F O P.tail := (H5.out.1.shrink (fun j hj hl => ⟨hj, hl⟩)).keep hua (fun _ _ h => h)
                exact ((hv.keep (upd_row _ _ _ _) (by rintro j ⟨-, h2⟩ e; omega)).keep (upd_row _ _ _ _) (by rintro j ⟨⟨-, h⟩ | h, h2⟩ e <;> omega)).wide (fun j hj => hS' j hj.1)
              · obtain ⟨hd6, hS5, hua, hg6, hth6, hw5, hs1, hS', hSb, hlb⟩ := HD.out
                exact ((hlow.out.trans (hua.mono (fun _ _ h => h.elim))).trans ((upd_row _ _ _ _).mono (fun j _ e => e ▸ H.out.2 _ (by omega)))).trans ((upd_row _ _ _ _).mono (fun j _ e => e ▸ H.out.2 _ (Nat.le_refl _)))
            · have hq : ((s' : Int) == (n : Int)) = false := by simpa using (fun e : (s' : Int) = n => heq (by omega))
              have hHN : Hid (∀ p ∈ O.drop k, p.1 ≠ n) := by
                intro p hp
                rw [List.drop_eq_getElem_cons hlt] at hp
                rcases List.mem_cons.1 hp with rfl | hp
                · rw [HO.out]; exact heq
                · exact HN.out p hp
              clear heq
              go_wp2
              go_round
              case rel => exact ⟨k, by omega, rfl, hHN.out⟩
              case measure => simp [intOf]
  · have HZ := Lib.hid hz
    have hz' : (hasC F.length s == 0) = false := by simpa using hz
    have hz2 : (hasC F.length s != 0) = true := by simpa using hz
    obtain ⟨hd1, hu1, hg1, hs1, hS', hSb, hlb⟩ := HX.out
    have hth : w4.there w.heap.size 0 64 := fun j hj => by
      rw [cell_of_block hg1, frozen_of_block hg1]
      exact ⟨by rw [Nat.zero_add, Array.getElem?_eq_getElem (by simp [bkC_len, zB_len]; omega)]; rfl, rfl⟩
    clear hd1 hu1 hg1 hs1 hS' hSb hlb hz
    go_wp2_with (first
        | (refine wpList_store_mid rfl _ _ _ rfl _ _ (bkC zB).toArray rfl rfl (by rw [bkC_size _ zB_len]; exact hth) (by rw [bkC_size _ zB_len]; exact sizeBk') (all_oneCell_toArray (bkC_one _)) ?_)
        | fail)
    rw [Exit.noGoto_ret]
    refine bodyPost_ret (results_mid2 rfl _ _ w.heap.size 0 (bkC zB) _ rfl (World.rangeAt_setCells_same _ _ _ _ (by rw [bkC_len, zB_len]; exact hth)) Tryz.underlying23 rfl (sizeBk zB zB_len)) rfl (.inl ⟨HZ.out, rfl, ?_, ?_⟩)
    · exact (HX.out.1.keep (upd_row _ _ _ _) (by rintro j (⟨-, h⟩ | h) e <;> omega)).wide (by obtain ⟨-, -, -, -, hS', -⟩ := HX.out; exact hS')
    · exact (HX.out.2.1.mono (fun _ _ h => h.elim)).trans ((upd_row _ _ _ _).mono (fun j _ e => e ▸ H.out.2 _ (Nat.le_refl _)))
structure DRes where
  F : List Bk
  O : List (Nat × Bk)
  P : List Int
  cd : Int
def Out (S : Nat → Prop) (w : World) (b : Nat) (r : DRes) (e : Ending) (w' : World) : Prop := e = .returned (.int .i64 r.cd) ∧ Dv S w' b r.F r.O r.P ∧ Upd S w w'
def flushR (F : List Bk) (O : List (Nat × Bk)) (P : List Int) : DRes :=
  if fate P = 1 then ⟨F, O, P.tail, 21⟩ else if fate P = 0 then ⟨flushF F O, [], P.tail, 0⟩ else ⟨F, O, P.tail, 0⟩
def writeR (F : List Bk) (O : List (Nat × Bk)) (P : List Int) (s : Nat) (y : Bk) : DRes :=
  if fate P = 1 then ⟨F, O, P.tail, 20⟩ else if fate P = 0 then ⟨F, O ++ [(s, y)], P.tail, 0⟩ else ⟨F, O, P.tail, 0⟩
theorem hasC_in {n s : Nat} (h : s < n) : hasC n (s : Int) = 0 := if_neg (by omega)
theorem dflushR {S : Nat → Prop} {w : World} {b : Nat} {F : List Bk} {O : List (Nat × Bk)} {P : List Int} (h : Dv S w b F O P) (hn : ∀ j, w.heap.size ≤ j → S j) :
    Calls Tryz.prog 72 #[.pointer (some ⟨b, 0, none⟩)] w (Out S w b (flushR F O P)) :=
  (dflush h hn).mono fun e w' h => by
    rcases h with ⟨h1, rfl, hd, hu⟩ | ⟨h1, rfl, hd, hu⟩ | ⟨h1, h2, rfl, hd, hu⟩
    · rw [flushR, if_pos h1]; exact ⟨rfl, hd, hu⟩
    · rw [flushR, if_neg (by omega), if_pos h1]; exact ⟨rfl, hd, hu⟩
    · rw [flushR, if_neg h2, if_neg h1]; exact ⟨rfl, hd, hu⟩
theorem dwriteR {S : Nat → Prop} {w : World} {b : Nat} {F : List Bk} {O : List (Nat × Bk)} {P : List Int} (h : Dv S w b F O P) (hn : ∀ j, w.heap.size ≤ j → S j) (s : Nat) (hs : s < F.length) (x : Bk) (hx : x.length = 64) (hO : O.length < 65536) :
    Calls Tryz.prog 17 #[.pointer (some ⟨b, 0, none⟩), .int .i64 (s : Int), .agg (bkC x).toArray] w (Out S w b (writeR F O P s x)) :=
  (dwrite h hn s x hx hO).mono fun e w' h => by
    have h0 := hasC_in hs
    rcases h with ⟨h1, -⟩ | ⟨-, h1, rfl, hd, hu⟩ | ⟨-, h1, rfl, hd, hu⟩ | ⟨-, h1, h2, rfl, hd, hu⟩
    · exact absurd h0 h1
    · rw [writeR, if_pos h1]; exact ⟨rfl, hd, hu⟩
    · rw [writeR, if_neg (by omega), if_pos h1]; rw [Int.toNat_natCast] at hd; exact ⟨rfl, hd, hu⟩
    · rw [writeR, if_neg h2, if_neg h1]; exact ⟨rfl, hd, hu⟩
def ReadOut (S : Nat → Prop) (w : World) (b : Nat) (F : List Bk) (O : List (Nat × Bk)) (P : List Int) (s : Nat) (e : Ending) (w' : World) : Prop :=
  ∃ (y : Bk) (cd : Int), e = .returned (.tuple #[.agg (bkC y).toArray, .int .i64 cd]) ∧ y = (if fate P = 1 then zB else curB F O s) ∧ cd = (if fate P = 1 then 19 else 0) ∧ y.length = 64 ∧ Dv S w' b F O P.tail ∧ Upd S w w'
theorem dreadR {S : Nat → Prop} {w : World} {b : Nat} {F : List Bk} {O : List (Nat × Bk)} {P : List Int} (h : Dv S w b F O P) (hn : ∀ j, w.heap.size ≤ j → S j) (s : Nat) (hs : s < F.length) :
    Calls Tryz.prog 49 #[.pointer (some ⟨b, 0, none⟩), .int .i64 (s : Int)] w (ReadOut S w b F O P s) :=
  (dread h hn s).mono fun e w' h' => by
    have h0 := hasC_in hs
    rcases h' with ⟨h1, -⟩ | ⟨-, h1, rfl, hd, hu⟩ | ⟨-, h1, rfl, hd, hu⟩
    · exact absurd h0 h1
    · exact ⟨zB, 19, rfl, (if_pos h1).symm, (if_pos h1).symm, zB_len, hd, hu⟩
    · exact ⟨curB F O s, 0, rfl, (if_neg h1).symm, (if_neg h1).symm, curB_len h.good s, hd, hu⟩
theorem Dv.but {S : Nat → Prop} {w : World} {b : Nat} {F : List Bk} {O : List (Nat × Bk)} {P : List Int} (h : Dv S w b F O P) {q : Nat} (hq : w.heap.size ≤ q) : Dv (fun j => S j ∧ j ≠ q) w b F O P :=
  h.shrink (fun j hj hl => ⟨hj, by omega⟩)
theorem need_any (n : Nat) (h1 : 1 ≤ n) (h2 : n ≤ 100000) (w : World) : Calls Tryz.prog 56 #[.int .i64 (n : Int)] w fun e w' => e = .returned (.int .i64 (((n - 1) / 4 + 1 : Nat) : Int)) ∧ w = w' := by
  have q1 : decide ((n : Int) < 0) = false := by simp
  have q2 : ((n : Int) == 0) = false := by rw [beq_eq_false_iff_ne]; omega
  have hn : ¬ ((n : Int) < 0) := by omega
  go_enter Tryz.func56, Tryz.ntmps56
  go_wp2
  go_ret
  refine ⟨?_, rfl⟩
  show Ending.returned (Value.int .i64 _) = _
  congr 2
  omega
theorem in_yes (n f t : Int) (h1 : f ≤ n) (h2 : n ≤ t) (w : World) : Calls Tryz.prog 83 #[.int .i64 n, .int .i64 f, .int .i64 t] w fun e w' => e = .returned (.bool true) ∧ w = w' := by
  have q1 : decide (f ≤ n) = true := by simpa using h1
  have q2 : decide (n ≤ t) = true := by simpa using h2
  go_enter Tryz.func83, Tryz.ntmps83
  go_wp2
  go_ret
  exact ⟨rfl, rfl⟩
abbrev superC (id bl sl jo pa lo ba : Int) : List Value := [.int .i64 id, .int .i64 bl, .int .i64 sl, .int .i64 jo, .int .i64 pa, .int .i64 lo, .int .i64 ba]
abbrev layC (sl jo pa lo : Nat) : List Value := [.int .i64 1, .int .i64 (1 + 2 * (pa : Int)), .int .i64 (1 + 2 * (pa : Int) + (jo : Int)), .int .i64 (1 + 2 * (pa : Int) + (jo : Int) + (lo : Int)), .int .i64 (1 + 2 * (pa : Int) + (jo : Int) + (lo : Int) + (lo : Int)), .int .i64 (1 + 2 * (pa : Int) + (jo : Int) + (lo : Int) + (lo : Int) + (lo : Int)), .int .i64 (1 + 2 * (pa : Int) + (jo : Int) + (lo : Int) + (lo : Int) + (lo : Int) + (sl : Int))]
theorem Upd.blockv {w w' : World} (h : Upd (fun _ => False) w w') {b : Nat} {o : Obj} (e : w.heap[b]? = some o) : w'.heap[b]? = some o := by
  have := h.block b (Array.getElem?_eq_some_iff.1 e).1 (fun h => h)
  rw [this, e]
theorem layC_one (sl jo pa lo : Nat) : (layC sl jo pa lo).toArray.all (·.oneCell') = true := by
  refine all_oneCell_toArray fun v hv => ?_
  simp only [layC, List.mem_cons, List.not_mem_nil, or_false] at hv
  rcases hv with rfl | rfl | rfl | rfl | rfl | rfl | rfl <;> rfl
theorem infoLay : (Tryz.prog.info? 82).map (·.size) = some 7 := by kernel_rfl
theorem infoSup : (Tryz.prog.info? 34).map (·.size) = some 7 := by kernel_rfl
set_option maxRecDepth 100000 in
set_option maxHeartbeats 4000000 in
theorem plan_ok (id : Int) (bl sl jo pa lo ba : Nat) (b1 : 1 ≤ bl) (b2 : bl ≤ 4096) (s1 : 1 ≤ sl) (s2 : sl ≤ 1024) (j1 : 4 ≤ jo) (j2 : jo ≤ 1024) (l1 : 1 ≤ lo) (l2 : lo ≤ 1024) (a1 : 1 ≤ ba) (a2 : ba ≤ 64) (p1 : (sl - 1) / 4 + 1 ≤ pa) (p2 : pa ≤ 4096)
    (hz : 1 + 2 * pa + jo + lo + lo + lo + sl ≤ 4096) (w : World) :
    Calls Tryz.prog 34 #[.agg (superC id bl sl jo pa lo ba).toArray] w fun e w' => e = .returned (.tuple #[.agg (layC sl jo pa lo).toArray, .int .i64 0]) ∧ Below w.heap.size w w' := by
  have hg := heap_alloc_last w (.cells (superC id bl sl jo pa lo ba).toArray 34) rfl
  have k1 : (w.alloc (.cells (superC id bl sl jo pa lo ba).toArray 34)).cell? ⟨w.heap.size, 1, none⟩ = some (.int .i64 (bl : Int)) := cell_of_block hg 1
  have k2 : (w.alloc (.cells (superC id bl sl jo pa lo ba).toArray 34)).cell? ⟨w.heap.size, 2, none⟩ = some (.int .i64 (sl : Int)) := cell_of_block hg 2
  have k3 : (w.alloc (.cells (superC id bl sl jo pa lo ba).toArray 34)).cell? ⟨w.heap.size, 3, none⟩ = some (.int .i64 (jo : Int)) := cell_of_block hg 3
  have k4 : (w.alloc (.cells (superC id bl sl jo pa lo ba).toArray 34)).cell? ⟨w.heap.size, 4, none⟩ = some (.int .i64 (pa : Int)) := cell_of_block hg 4
  have k5 : (w.alloc (.cells (superC id bl sl jo pa lo ba).toArray 34)).cell? ⟨w.heap.size, 5, none⟩ = some (.int .i64 (lo : Int)) := cell_of_block hg 5
  have k6 : (w.alloc (.cells (superC id bl sl jo pa lo ba).toArray 34)).cell? ⟨w.heap.size, 6, none⟩ = some (.int .i64 (ba : Int)) := cell_of_block hg 6
  go_enter Tryz.func34, Tryz.ntmps34
  go_wp2_with fail
  have hua : Upd (fun _ => False) (w.alloc (.cells (superC id bl sl jo pa lo ba).toArray 34)) ((w.alloc (.cells (superC id bl sl jo pa lo ba).toArray 34)).alloc (.cells #[.int .i64 0, .int .i64 0, .int .i64 0, .int .i64 0, .int .i64 0, .int .i64 0, .int .i64 0] 82)) := (Upd.refl _ _).alloc _
  have hgl : ((w.alloc (.cells (superC id bl sl jo pa lo ba).toArray 34)).alloc (.cells #[.int .i64 0, .int .i64 0, .int .i64 0, .int .i64 0, .int .i64 0, .int .i64 0, .int .i64 0] 82)).heap[w.heap.size + 1]? = _ := heap_alloc_last _ _ (by simp)
  have hul : Upd (fun _ => False) w ((w.alloc (.cells (superC id bl sl jo pa lo ba).toArray 34)).alloc (.cells #[.int .i64 0, .int .i64 0, .int .i64 0, .int .i64 0, .int .i64 0, .int .i64 0, .int .i64 0] 82)) := ((Upd.refl _ w).alloc _).alloc _
  have hs2 : ((w.alloc (.cells (superC id bl sl jo pa lo ba).toArray 34)).alloc (.cells #[.int .i64 0, .int .i64 0, .int .i64 0, .int .i64 0, .int .i64 0, .int .i64 0, .int .i64 0] 82)).heap.size = w.heap.size + 2 := by simp
  replace k1 := hua.cellv k1 (fun h => h)
  replace k2 := hua.cellv k2 (fun h => h)
  replace k3 := hua.cellv k3 (fun h => h)
  replace k4 := hua.cellv k4 (fun h => h)
  replace k5 := hua.cellv k5 (fun h => h)
  replace k6 := hua.cellv k6 (fun h => h)
  generalize (w.alloc (.cells (superC id bl sl jo pa lo ba).toArray 34)).alloc (.cells #[.int .i64 0, .int .i64 0, .int .i64 0, .int .i64 0, .int .i64 0, .int .i64 0, .int .i64 0] 82) = w2 at *
  generalize hm : w.heap.size = m at *
  have HM := Lib.hid (And.intro hgl (And.intro hul hs2))
  clear hg hua hgl hul hs2
  go_region_held3 (fun W => W.cell? ⟨m, 1, none⟩ = some (.int .i64 (bl : Int)) ∧ W.cell? ⟨m, 2, none⟩ = some (.int .i64 (sl : Int)) ∧ W.cell? ⟨m, 3, none⟩ = some (.int .i64 (jo : Int)) ∧ W.cell? ⟨m, 4, none⟩ = some (.int .i64 (pa : Int)) ∧ W.cell? ⟨m, 5, none⟩ = some (.int .i64 (lo : Int)) ∧ W.cell? ⟨m, 6, none⟩ = some (.int .i64 (ba : Int)))
    ((go_split_ands; (simp only [World.cell?_drew] at *); ((repeat' constructor) <;> assumption)))
    (first | (go_at_call 83; refine (in_yes _ _ _ (by omega) (by omega) _).mono ?_; rintro e w' ⟨rfl, rfl⟩) | (go_at_call 56; refine (need_any _ s1 (by omega) _).mono ?_; rintro e w' ⟨rfl, rfl⟩))
  obtain ⟨hgl, hul, hs2⟩ := HM.out
  clear HM k1 k2 k3 k4 k5 k6
  rename_i hHeld
  obtain ⟨k1, k2, k3, k4, k5, k6⟩ := hHeld
  have hm2 : m < w2.drew.heap.size := by show _ < w2.heap.size; omega
  have hm3 : m + 1 < w2.drew.heap.size := by show _ < w2.heap.size; omega
  have hu : Upd (fun _ => False) w w2.drew := hul.drew
  replace hgl : w2.drew.heap[m + 1]? = _ := hgl
  replace hs2 : w2.drew.heap.size = m + 2 := hs2
  have HM := Lib.hid (And.intro hgl (And.intro hu hs2))
  clear hgl hul hs2 hu
  generalize w2.drew = w3 at *
  have hth : Hid (∀ X, (w3.alloc X).there (m + 1) 0 7) := by
    intro X j hj
    have hb : (w3.alloc X).heap[m + 1]? = _ := ((Upd.refl (fun _ => False) w3).alloc X).blockv HM.out.1
    rw [cell_of_block hb, frozen_of_block hb, Nat.zero_add]
    refine ⟨?_, rfl⟩
    rw [Array.getElem?_eq_getElem (by simpa using hj)]
    rfl
  go_upto_region 14 with fail
  have rA := range_of_block (heap_alloc_last w3 (.cells (layC sl jo pa lo).toArray 82) rfl)
  have hB : Below w.heap.size w (w3.alloc (.cells (layC sl jo pa lo).toArray 82)) := Upd.below ((HM.out.2.1).alloc _)
  have hth2 := hth.out (.cells (layC sl jo pa lo).toArray 82)
  clear k1 k2 k3 k4 k5 k6 HM hth
  generalize w3.alloc (.cells (layC sl jo pa lo).toArray 82) = w5 at *
  generalize w3.heap.size = m3 at *
  have h7 : (layC sl jo pa lo).length = 7 := rfl
  have h1 := layC_one sl jo pa lo
  have hE : (Value.tuple #[.agg (layC sl jo pa lo).toArray, .int .i64 0]) = Value.tuple #[.agg (layC sl jo pa lo).toArray, .int .i64 0] := rfl
  generalize hL : layC sl jo pa lo = L at *
  have hi : (Tryz.prog.info? 82).map (·.size) = some L.length := by rw [h7]; exact infoLay
  have hi2 : (Tryz.prog.info? 82).map (·.size) = some L.toArray.size := by rw [List.size_toArray, h7]; exact infoLay
  have hth3 : w5.there (m + 1) 0 L.toArray.size := by rw [List.size_toArray, h7]; exact hth2
  have hth4 : w5.there (m + 1) 0 L.length := by rw [h7]; exact hth2
  have HF := Lib.hid (And.intro hB (And.intro hth3 (And.intro hth4 (And.intro hi (And.intro hi2 h1)))))
  clear hB hth2 hth3 hth4 hi hi2 h1 h7 hE
  go_wp2_with (first
    | (refine wpList_load_mid rfl _ _ rfl _ _ rfl L _ rA Tryz.underlying82 rfl HF.out.2.2.2.1 ?_)
    | (refine wpList_store_mid rfl _ _ _ rfl (m + 1) 0 L.toArray rfl rfl HF.out.2.1 HF.out.2.2.2.2.1 HF.out.2.2.2.2.2 ?_)
    | fail)
  refine bodyPost_ret (results_mid2 rfl _ _ (m + 1) 0 L _ rfl (World.rangeAt_setCells_same _ _ _ _ HF.out.2.2.1) Tryz.underlying82 rfl HF.out.2.2.2.1) rfl ⟨by subst hL; rfl, below_upd (hm ▸ HF.out.1) (upd_row _ (m + 1) 0 _) (by omega) (fun k e => by omega)⟩
end Go.Proofs.YtnadilfobmgebaaGreatDoor
