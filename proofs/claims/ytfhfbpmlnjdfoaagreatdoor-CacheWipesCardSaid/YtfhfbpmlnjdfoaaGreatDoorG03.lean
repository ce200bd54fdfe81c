/- A device: Read, Firm. A device: Firm. A device's calls, as functions of its state. A journal: may, New, Next. A journal in memory; Cover of all that was added. 'Ints': are two lists the same. The clock's row of keys: slices.Index, find (with its deferred closure). The clock's functions that recover: find, wasAsked (keys that can be compared: nothing panics). What every law's row asks behind the call, out of 'it returned true, and nothing that was there has turned'. -/
import Derived.Test.YtfhfbpmlnjdfoaaGreatDoorG02
import Derived.Test.YtfhfbpmlnjdfoaaGreatDoorG01
import Derived.Defers
import Derived.Recover
import Derived.Deep.Slices
import Derived.Lib.SmallJoins
import Derived.Deep.Strs
namespace Go.Proofs.YtfhfbpmlnjdfoaaGreatDoor
open Go Go.RowKit
def curB (F : List Bk) (O : List (Nat × Bk)) (s : Nat) : Bk := (flushF F O).getD s zB
theorem flushF_app (F : List Bk) (O O' : List (Nat × Bk)) : flushF F (O ++ O') = flushF (flushF F O) O' := by simp [flushF]
theorem flushF_skip {F : List Bk} {O : List (Nat × Bk)} {s : Nat} (h : ∀ p ∈ O, p.1 ≠ s) : (flushF F O)[s]? = F[s]? := by
  induction O generalizing F with
  | nil => rfl
  | cons p O ih =>
    have := ih (F := F.set p.1 p.2) (fun q hq => h q (by simp [hq]))
    simp only [flushF, List.foldl_cons] at this ⊢
    rw [this, List.getElem?_set_ne (h p (by simp))]
theorem curB_skip {F : List Bk} {O : List (Nat × Bk)} {s k : Nat} (h : ∀ p ∈ O.drop k, p.1 ≠ s) : curB F O s = curB F (O.take k) s := by
  unfold curB
  have : flushF F O = flushF (flushF F (O.take k)) (O.drop k) := by rw [← flushF_app, List.take_append_drop]
  rw [this, List.getD_eq_getElem?_getD, flushF_skip h, ← List.getD_eq_getElem?_getD]
theorem curB_hit {F : List Bk} {O : List (Nat × Bk)} {s k : Nat} (hk : k < O.length) (hs : s < F.length) (h0 : O[k].1 = s) (h : ∀ p ∈ O.drop (k + 1), p.1 ≠ s) : curB F O s = O[k].2 := by
  rw [curB_skip h]
  unfold curB
  rw [flushF_take hk, h0, List.getD_eq_getElem?_getD, List.getElem?_set_self (by rw [flushF_len]; exact hs)]; rfl
theorem curB_none {F : List Bk} {O : List (Nat × Bk)} {s : Nat} (hs : s < F.length) (h : ∀ p ∈ O, p.1 ≠ s) : curB F O s = F[s] := by
  rw [curB_skip (k := 0) (by simpa using h)]
  simp [curB, flushF, hs]
theorem curB_len {F : List Bk} {O : List (Nat × Bk)} {P : List Int} (h : DvGood F O P) (s : Nat) : (curB F O s).length = 64 := by
  unfold curB
  have : ∀ (O : List (Nat × Bk)) (F : List Bk), All64 F → (∀ p ∈ O, p.2.length = 64) → All64 (flushF F O) := by
    intro O
    induction O with
    | nil => intro F h _; exact h
    | cons p O ih => intro F hF hO; exact ih _ (hF.set p.1 (hO p (by simp))) (fun q hq => hO q (by simp [hq]))
  have h2 := this O F h.f64 (fun p hp => (h.o64 p hp).1)
  by_cases hs : s < (flushF F O).length
  · rw [List.getD_eq_getElem?_getD, List.getElem?_eq_getElem hs]; exact h2 _ (List.getElem_mem hs)
  · rw [List.getD_eq_getElem?_getD, List.getElem?_eq_none (by omega)]; exact zB_len
theorem dread0 (w : World) : Calls Tryz.prog 128 #[] w fun e w' => e = .returned (.tuple #[]) ∧ w' = w := by
  go_enter Tryz.func128, Tryz.ntmps128
  go_wp2
  go_end0
  exact ⟨rfl, rfl⟩
theorem bkC_size (x : Bk) (hx : x.length = 64) : (bkC x).toArray.size = 64 := by simp [bkC_len, hx]
def ReadPost (S : Nat → Prop) (w : World) (b : Nat) (F : List Bk) (O : List (Nat × Bk)) (P : List Int) (s : Int) (e : Ending) (w' : World) : Prop :=
  (hasC F.length s ≠ 0 ∧ e = .returned (.tuple #[bkV zB, .int .i64 (hasC F.length s)]) ∧ Dv S w' b F O P ∧ Upd S w w') ∨
  (hasC F.length s = 0 ∧ fate P = 1 ∧ e = .returned (.tuple #[bkV zB, .int .i64 19]) ∧ Dv S w' b F O P.tail ∧ Upd S w w') ∨
  (hasC F.length s = 0 ∧ fate P ≠ 1 ∧ e = .returned (.tuple #[bkV (curB F O s.toNat), .int .i64 0]) ∧ Dv S w' b F O P.tail ∧ Upd S w w')
theorem sizeBk' : (Tryz.prog.info? 54).map (·.size) = some 64 := sizeBk zB zB_len
set_option maxRecDepth 100000 in
set_option maxHeartbeats 1000000 in
theorem dread {S : Nat → Prop} {w : World} {b : Nat} {F : List Bk} {O : List (Nat × Bk)} {P : List Int} (h : Dv S w b F O P) (hn : ∀ j, w.heap.size ≤ j → S j) (s : Int) :
    Calls Tryz.prog 67 #[.pointer (some ⟨b, 0, none⟩), .int .i64 s] w (ReadPost S w b F O P s) := by
  have H := Lib.hid (And.intro h hn)
  clear h hn
  go_enter Tryz.func67, Tryz.ntmps67
  go_wp2
  go_step3
  go_wp2_with fail
  show Calls _ _ _ (w.alloc (.cells (bkC zB).toArray 54)) _
  have hu1 : Upd (fun _ => False) w (w.alloc (.cells (bkC zB).toArray 54)) := (Upd.refl _ w).alloc _
  have hg1 : (w.alloc (.cells (bkC zB).toArray 54)).heap[w.heap.size]? = some (.cells (bkC zB).toArray 54) := heap_alloc_last _ _ rfl
  have hs1 : (w.alloc (.cells (bkC zB).toArray 54)).heap.size = w.heap.size + 1 := by simp
  generalize w.alloc (.cells (bkC zB).toArray 54) = w1 at *
  obtain ⟨hd0, hn⟩ := H.out
  obtain ⟨hSb, hlb⟩ := hd0.sb
  have hd1 : Dv (fun j => (S j ∧ j < w.heap.size) ∨ w.heap.size + 1 ≤ j) w1 b F O P := (hd0.shrink (fun j hj hl => .inl ⟨hj, hl⟩)).keep hu1 (fun _ _ h => h)
  have hS' : ∀ j, ((S j ∧ j < w.heap.size) ∨ w.heap.size + 1 ≤ j) → S j := by
    rintro j (⟨h, -⟩ | h)
    · exact h
    · exact hn j (by omega)
  have HX := Lib.hid (And.intro hd1 (And.intro hu1 (And.intro hg1 (And.intro hs1 (And.intro hS' (And.intro hSb hlb))))))
  clear hd1 hu1 hg1 hs1 hS' hSb hlb hd0 hn
  refine (dhas HX.out.1 s).mono ?_
  rintro e w4 ⟨rfl, rfl⟩
  by_cases hz : hasC F.length s = 0
  · have HZ := Lib.hid hz
    rw [hz]
    clear hz
    go_wp2_with fail
    refine (dcall HX.out.1 19 128 #[] (fun W => Dv (fun j => (S j ∧ j < w.heap.size) ∨ w.heap.size + 1 ≤ j) W b F O P.tail ∧ Upd (fun j => j = b) w4 W) (fun _ _ => rfl) ?_).mono ?_
    · intro h0 w1 hd1 hu1
      refine (dread0 w1).mono ?_
      rintro e w' ⟨rfl, rfl⟩
      exact ⟨rfl, hd1, hu1⟩
    · obtain ⟨hd1, hu1, hg1, hs1, hS', hSb, hlb⟩ := HX.out
      rintro e w5 h5
      have H5 : Hid (Dv (fun j => (S j ∧ j < w.heap.size) ∨ w.heap.size + 1 ≤ j) w5 b F O P.tail ∧ Upd (fun j => j = b) w4 w5) := by
        rcases h5 with ⟨-, -, a, b⟩ | ⟨-, -, a, b⟩ | ⟨-, -, -, a, b⟩ <;> exact ⟨a, b⟩
      have hth : w5.there w.heap.size 0 64 := fun j hj => by
        have hg5 := (H5.out.2.block w.heap.size (by omega) (by omega)).trans hg1
        rw [cell_of_block hg5, frozen_of_block hg5]
        exact ⟨by rw [Nat.zero_add, Array.getElem?_eq_getElem (by simp [bkC_len, zB_len]; omega)]; rfl, rfl⟩
      have hlow : Hid (Upd S w w5) := (hu1.mono (fun _ _ h => h.elim)).trans (H5.out.2.mono (fun j _ e => e ▸ hSb))
      have hw5 := H5.out.2.size
      clear hd1 hu1 hg1
      have h6 : (fate P = 1 ∧ e = .returned (.int .i64 19)) ∨ (fate P ≠ 1 ∧ e = .returned (.int .i64 0)) := by
        rcases h5 with ⟨h1, rfl, -, -⟩ | ⟨h0, rfl, -, -⟩ | ⟨h0, h1, rfl, -, -⟩
        · exact .inl ⟨h1, rfl⟩
        · exact .inr ⟨by omega, rfl⟩
        · exact .inr ⟨h1, rfl⟩
      clear h5
      rcases h6 with ⟨h1, rfl⟩ | ⟨h1, rfl⟩
      · have H1 := Lib.hid h1
        clear h1 hs1 hS' hSb hlb hw5
        go_wp2_with (first
          | (refine wpList_store_mid rfl _ _ _ rfl _ _ (bkC zB).toArray rfl rfl (by rw [bkC_size _ zB_len]; exact hth) (by rw [bkC_size _ zB_len]; exact sizeBk') (all_oneCell_toArray (bkC_one _)) ?_)
          | fail)
        rw [Exit.noGoto_ret]
        refine bodyPost_ret (results_mid2 rfl _ _ w.heap.size 0 (bkC zB) _ rfl (World.rangeAt_setCells_same _ _ _ _ (by rw [bkC_len, zB_len]; exact hth)) Tryz.underlying54 rfl (sizeBk zB zB_len)) rfl (.inr (.inl ⟨HZ.out, H1.out, rfl, ?_, ?_⟩))
        · exact (H5.out.1.keep (upd_row _ _ _ _) (by rintro j (⟨-, h⟩ | h) e <;> omega)).wide (by obtain ⟨-, -, -, -, hS', -⟩ := HX.out; exact hS')
        · exact hlow.out.trans ((upd_row _ _ _ _).mono (fun j _ e => e ▸ H.out.2 _ (Nat.le_refl _)))
      · have H1 := Lib.hid h1
        clear h1
        obtain ⟨n, rfl⟩ : ∃ n : Nat, s = n := ⟨s.toNat, (hasC_zero HZ.out).1.symm⟩
        have hsn := (hasC_zero HZ.out).2
        rw [Int.toNat_natCast] at hsn
        obtain ⟨vf, vo, vp, hd5, hS5⟩ := H5.out.1
        obtain ⟨gF, oF, cF, rfl, hgF, hcF, rF, tF⟩ := hd5.fiRange hsn
        obtain ⟨ao, co, rfl⟩ := hd5.os.rd.nil_iff
        obtain ⟨e0, e1, e2⟩ := hd5.c
        have hfl := hd5.good.fl
        have hol := hd5.good.ol
        have hx : (F[n]).length = 64 := hd5.good.f64 _ (List.getElem_mem hsn)
        have hua : Upd (fun _ => False) w5 (w5.alloc (.cells (bkC F[n]).toArray 54)) := (Upd.refl _ _).alloc _
        have hd6 := hd5.new hua
        have hg6 := heap_alloc_last w5 (.cells (bkC F[n]).toArray 54) rfl
        have hth6 := World.there_alloc hth (.cells (bkC F[n]).toArray 54)
        have e16 := hd6.c.2.1
        have hb1 : 0 ≤ (n : Int) ∧ (n : Int) < F.length := ⟨by omega, by omega⟩
        have hse : Hid ((bkC F[n]).length = 64) := by show _ = _; rw [bkC_len, hx]
        have hse2 : Hid (F[n].length = 64) := hx
        have HD := Lib.hid (And.intro hd6 (And.intro hS5 (And.intro hua (And.intro hg6 (And.intro hth6 (And.intro hw5 (And.intro hs1 (And.intro hS' (And.intro hSb hlb)))))))))
        clear hd5 hS5 hx tF hgF hcF hd6 hua hg6 hth6 hw5 hs1 hS' hSb hlb hth
        obtain ⟨hb1, hb2⟩ := hb1
        go_wp2_with (first
          | (refine wpList_load_mid rfl _ _ rfl _ _ rfl _ _ rF Tryz.underlying54 rfl (sizeBk _ hse2.out) ?_)
          | (refine wpList_store_new rfl _ _ _ rfl _ _ _ rfl rfl hse.out.symm (sizeBk _ hse2.out) (bkC_one _) ?_)
          | fail)
        clear e0 e1 e2 rF
        generalize w5.alloc (.cells (bkC F[n]).toArray 54) = w6 at *
        go_step3
        go_wp2
        go_loop [9] (fun i => ∃ k : Nat, k ≤ O.length ∧ i = .int .i64 ((k : Int) - 1) ∧ ∀ p ∈ O.drop k, p.1 ≠ n) (fun i => (intOf i + 1).toNat)
        case atStart => exact ⟨O.length, Nat.le_refl _, rfl, by simp⟩
        case round =>
          obtain ⟨k, hk, rfl, hno⟩ := hrel
          have HN : Hid (∀ p ∈ O.drop k, p.1 ≠ n) := hno
          clear hno
          cases k with
          | zero =>
            obtain ⟨hd6, hS5, hua, hg6, hth6, hw5, hs1, hS', hSb, hlb⟩ := HD.out
            have r6 := range_of_block hg6
            have hzero : Hid (curB F O n = F[n]) := curB_none hsn (by have := HN.out; simpa using this)
            have hst : w6.there w.heap.size 0 (bkC F[n]).toArray.size := by rw [bkC_size _ hse2.out]; exact hth6
            have hsz2 : (Tryz.prog.info? 54).map (·.size) = some (bkC F[n]).toArray.size := by rw [bkC_size _ hse2.out]; exact sizeBk'
            have HST := Lib.hid (And.intro hst hsz2)
            clear hd6 hS5 hua hg6 hs1 hS' hSb hlb hst hsz2
            simp only [Int.natCast_zero]
            go_wp2_with (first
              | (refine wpList_load_mid rfl _ _ rfl _ _ rfl _ _ r6 Tryz.underlying54 rfl (sizeBk _ hse2.out) ?_)
              | (refine wpList_store_mid rfl _ _ _ rfl _ _ (bkC F[n]).toArray rfl rfl HST.out.1 HST.out.2 (all_oneCell_toArray (bkC_one _)) ?_)
              | fail)
            try rw [Exit.noGoto_ret]
            refine bodyPost_ret (results_mid2 rfl _ _ w.heap.size 0 (bkC F[n]) _ rfl (World.rangeAt_setCells_same _ _ _ _ (by rw [hse.out]; exact hth6)) Tryz.underlying54 rfl (sizeBk _ hse2.out)) rfl (.inr (.inr ⟨HZ.out, H1.out, by rw [Int.toNat_natCast, hzero.out]; rfl, ?_, ?_⟩))
            · obtain ⟨hd6, hS5, hua, hg6, hth6, hw5, hs1, hS', hSb, hlb⟩ := HD.out
              exact (Dv.keep ⟨_, _, _, hd6, hS5⟩ (upd_row _ _ _ _) (by rintro j (⟨-, h⟩ | h) e <;> omega)).wide hS'
            · obtain ⟨hd6, hS5, hua, hg6, hth6, hw5, hs1, hS', hSb, hlb⟩ := HD.out
              exact (hlow.out.trans (hua.mono (fun _ _ h => h.elim))).trans ((upd_row _ _ _ _).mono (fun j _ e => e ▸ H.out.2 _ (Nat.le_refl _)))
          | succ k =>
            have hlt : k < O.length := by omega
            have ek : ((k + 1 : Nat) : Int) - 1 = (k : Int) := by omega
            rw [ek]
            clear ek
            obtain ⟨hd6, hS5, hua, hg6, hth6, hw5, hs1, hS', hSb, hlb⟩ := HD.out
            obtain ⟨gO, oO, cO, e2, hgO, hcO, rO⟩ := hd6.opRange hlt
            obtain ⟨rfl, rfl⟩ : ao = some ⟨gO, oO, none⟩ ∧ co = cO := by injection e2 with e1 _ e2; exact ⟨e1, e2⟩
            clear e2
            obtain ⟨s', x', hO⟩ : ∃ s x, O[k] = (s, x) := ⟨_, _, rfl⟩
            have hx' : x'.length = 64 := by have := (hd6.good.o64 O[k] (List.getElem_mem hlt)).1; rw [hO] at this; exact this
            rw [hO] at rO
            have HO := Lib.hid hO
            clear hO
            have c0 := rO 0 _ rfl
            have r1 : w6.rangeAt gO (oO + k * 65 + 1) (bkC x') := fun j v hv => by
              have := rO (1 + j) v (by rw [Nat.add_comm]; exact hv)
              rw [← Nat.add_assoc] at this; exact this
            rw [Nat.add_zero] at c0
            have hO1 : 0 ≤ (k : Int) ∧ (k : Int) < O.length := ⟨by omega, by omega⟩
            clear hd6 hS5 hua hw5 hs1 hS' hSb hlb rO hgO hcO
            by_cases heq : s' = n
            · subst heq
              have hcur : Hid (curB F O s' = x') := by
                have := curB_hit hlt hsn (by rw [HO.out]) HN.out
                rw [HO.out] at this; exact this
              obtain ⟨gx, hgx⟩ : ∃ g, g = w5.heap.size := ⟨_, rfl⟩
              have hst6 : w6.there w5.heap.size 0 (bkC x').toArray.size := by
                rw [bkC_size _ hx']
                intro j hj
                rw [cell_of_block hg6, frozen_of_block hg6]
                exact ⟨by rw [Nat.zero_add, Array.getElem?_eq_getElem (by rw [bkC_size _ hse2.out]; exact hj)]; rfl, rfl⟩
              have hsz2 : (Tryz.prog.info? 54).map (·.size) = some (bkC x').toArray.size := by rw [bkC_size _ hx']; exact sizeBk'
              have h7 : (w6.setCells w5.heap.size 0 (bkC x')).rangeAt w5.heap.size 0 (bkC x') := World.rangeAt_setCells_same _ _ _ _ (by rw [bkC_size _ hx'] at hst6; rw [bkC_len, hx']; exact hst6)
              have hth7 : (w6.setCells w5.heap.size 0 (bkC x')).there w.heap.size 0 (bkC x').toArray.size := by rw [bkC_size _ hx']; exact World.there_setCells hth6 _ _ _
              have HST := Lib.hid (And.intro hst6 (And.intro hsz2 (And.intro h7 (And.intro hth7 hx'))))
              clear hst6 hsz2 h7 hth7 hgx hx'
              go_wp2_with (first
                | (refine wpList_load_mid rfl _ _ rfl _ _ rfl _ _ r1 Tryz.underlying54 rfl (sizeBk _ HST.out.2.2.2.2) ?_)
                | (refine wpList_load_mid rfl _ _ rfl _ _ rfl _ _ HST.out.2.2.1 Tryz.underlying54 rfl (sizeBk _ HST.out.2.2.2.2) ?_)
                | (refine wpList_store_mid rfl _ _ _ rfl _ _ (bkC x').toArray rfl rfl HST.out.1 HST.out.2.1 (all_oneCell_toArray (bkC_one _)) ?_)
                | (refine wpList_store_mid rfl _ _ _ rfl _ _ (bkC x').toArray rfl rfl HST.out.2.2.2.1 HST.out.2.1 (all_oneCell_toArray (bkC_one _)) ?_)
                | fail)
              have hth8 : (w6.setCells w5.heap.size 0 (bkC x')).there w.heap.size 0 (bkC x').length := by rw [bkC_len, HST.out.2.2.2.2]; exact World.there_setCells hth6 _ _ _
              refine bodyPost_ret (results_mid2 rfl _ _ w.heap.size 0 (bkC x') _ rfl (World.rangeAt_setCells_same _ _ _ _ hth8) Tryz.underlying54 rfl (sizeBk _ HST.out.2.2.2.2)) rfl (.inr (.inr ⟨HZ.out, H1.out, by rw [Int.toNat_natCast, hcur.out]; rfl, ?_, ?_⟩))
              · obtain ⟨hd6, hS5, hua, hg6, hth6, hw5, hs1, hS', hSb, hlb⟩ := HD.out
                have hv : Dv (fun j => ((S j ∧ j < w.heap.size) ∨ w.heap.size + 1 ≤ j) ∧ j < w5.heap.size) w6 b F O P.tail := (H5.out.1.shrink (fun j hj hl => ⟨hj, hl⟩)).keep hua (fun _ _ h => h)
                exact ((hv.keep (upd_row _ _ _ _) (by rintro j ⟨-, h2⟩ e; omega)).keep (upd_row _ _ _ _) (by rintro j ⟨⟨-, h⟩ | h, h2⟩ e <;> omega)).wide (fun j hj => hS' j hj.1)
              · obtain ⟨hd6, hS5, hua, hg6, hth6, hw5, hs1, hS', hSb, hlb⟩ := HD.out
                exact ((hlow.out.trans (hua.mono (fun _ _ h => h.elim))).trans ((upd_row _ _ _ _).mono (fun j _ e => e ▸ H.out.2 _ (by omega)))).trans ((upd_row _ _ _ _).mono (fun j _ e => e ▸ H.out.2 _ (Nat.le_refl _)))
            · have hq : ((s' : Int) == (n : Int)) = false := by simpa using (fun e : (s' : Int) = n => heq (by omega))
              have hHN : Hid (∀ p ∈ O.drop k, p.1 ≠ n) := by
                intro p hp
                rw [List.drop_eq_getElem_cons hlt] at hp
                rcases List.mem_cons.1 hp with rfl | hp
                · rw [HO.out]; exact heq
                · exact HN.out p hp
              clear heq
              go_wp2
              go_round
              case rel => exact ⟨k, by omega, rfl, hHN.out⟩
              case measure => simp [intOf]
  · have HZ := Lib.hid hz
    have hz' : (hasC F.length s == 0) = false := by simpa using hz
    have hz2 : (hasC F.length s != 0) = true := by simpa using hz
    obtain ⟨hd1, hu1, hg1, hs1, hS', hSb, hlb⟩ := HX.out
    have hth : w4.there w.heap.size 0 64 := fun j hj => by
      rw [cell_of_block hg1, frozen_of_block hg1]
      exact ⟨by rw [Nat.zero_add, Array.getElem?_eq_getElem (by simp [bkC_len, zB_len]; omega)]; rfl, rfl⟩
    clear hd1 hu1 hg1 hs1 hS' hSb hlb hz
    go_wp2_with (first
        | (refine wpList_store_mid rfl _ _ _ rfl _ _ (bkC zB).toArray rfl rfl (by rw [bkC_size _ zB_len]; exact hth) (by rw [bkC_size _ zB_len]; exact sizeBk') (all_oneCell_toArray (bkC_one _)) ?_)
        | fail)
    rw [Exit.noGoto_ret]
    refine bodyPost_ret (results_mid2 rfl _ _ w.heap.size 0 (bkC zB) _ rfl (World.rangeAt_setCells_same _ _ _ _ (by rw [bkC_len, zB_len]; exact hth)) Tryz.underlying54 rfl (sizeBk zB zB_len)) rfl (.inl ⟨HZ.out, rfl, ?_, ?_⟩)
    · exact (HX.out.1.keep (upd_row _ _ _ _) (by rintro j (⟨-, h⟩ | h) e <;> omega)).wide (by obtain ⟨-, -, -, -, hS', -⟩ := HX.out; exact hS')
    · exact (HX.out.2.1.mono (fun _ _ h => h.elim)).trans ((upd_row _ _ _ _).mono (fun j _ e => e ▸ H.out.2 _ (Nat.le_refl _)))
def FirmPost (w : World) (F : List Bk) (s : Int) (e : Ending) (w' : World) : Prop :=
  (hasC F.length s ≠ 0 ∧ e = .returned (.tuple #[bkV zB, .int .i64 (hasC F.length s)]) ∧ Below w.heap.size w w') ∨
  (hasC F.length s = 0 ∧ e = .returned (.tuple #[bkV (F.getD s.toNat zB), .int .i64 0]) ∧ Below w.heap.size w w')
set_option maxRecDepth 100000 in
set_option maxHeartbeats 1000000 in
theorem dfirm {S : Nat → Prop} {w : World} {b : Nat} {F : List Bk} {O : List (Nat × Bk)} {P : List Int} (h : Dv S w b F O P) (s : Int) :
    Calls Tryz.prog 49 #[.pointer (some ⟨b, 0, none⟩), .int .i64 s] w (FirmPost w F s) := by
  have H := Lib.hid h
  clear h
  go_enter Tryz.func49, Tryz.ntmps49
  go_wp2_with fail
  show Calls _ _ _ (w.alloc (.cells (bkC zB).toArray 54)) _
  have hu1 : Upd (fun _ => False) w (w.alloc (.cells (bkC zB).toArray 54)) := (Upd.refl _ w).alloc _
  have hg1 : (w.alloc (.cells (bkC zB).toArray 54)).heap[w.heap.size]? = some (.cells (bkC zB).toArray 54) := heap_alloc_last _ _ rfl
  generalize w.alloc (.cells (bkC zB).toArray 54) = w1 at *
  have hd1 := H.out.new hu1
  have hth : w1.there w.heap.size 0 64 := fun j hj => by
    rw [cell_of_block hg1, frozen_of_block hg1]
    exact ⟨by rw [Nat.zero_add, Array.getElem?_eq_getElem (by rw [bkC_size _ zB_len]; exact hj)]; rfl, rfl⟩
  have HX := Lib.hid (And.intro hd1 hu1)
  clear hd1 hu1 hg1
  refine (dhas HX.out.1 s).mono ?_
  rintro e w4 ⟨rfl, rfl⟩
  by_cases hz : hasC F.length s = 0
  · have HZ := Lib.hid hz
    rw [hz]
    clear hz
    obtain ⟨n, rfl⟩ : ∃ n : Nat, s = n := ⟨s.toNat, (hasC_zero HZ.out).1.symm⟩
    have hsn := (hasC_zero HZ.out).2
    rw [Int.toNat_natCast] at hsn
    obtain ⟨vf, vo, vp, hd5, hS5⟩ := HX.out.1
    obtain ⟨gF, oF, cF, rfl, hgF, hcF, rF, tF⟩ := hd5.fiRange hsn
    obtain ⟨e0, -, -⟩ := hd5.c
    have hfl := hd5.good.fl
    have hx : (F[n]).length = 64 := hd5.good.f64 _ (List.getElem_mem hsn)
    have hst : w4.there w.heap.size 0 (bkC F[n]).toArray.size := by rw [bkC_size _ hx]; exact hth
    have hst2 : w4.there w.heap.size 0 (bkC F[n]).length := by rw [bkC_len, hx]; exact hth
    have hsz2 : (Tryz.prog.info? 54).map (·.size) = some (bkC F[n]).toArray.size := by rw [bkC_size _ hx]; exact sizeBk'
    have HST := Lib.hid (And.intro hst (And.intro hsz2 (And.intro hx hst2)))
    have hb1 : 0 ≤ (n : Int) ∧ (n : Int) < F.length := ⟨by omega, by omega⟩
    clear hst hsz2 hx hst2 hd5 hS5 tF hcF
    obtain ⟨hb1, hb2⟩ := hb1
    go_wp2_with (first
      | (refine wpList_load_mid rfl _ _ rfl _ _ rfl _ _ rF Tryz.underlying54 rfl (sizeBk _ HST.out.2.2.1) ?_)
      | (refine wpList_store_mid rfl _ _ _ rfl _ _ (bkC F[n]).toArray rfl rfl HST.out.1 HST.out.2.1 (all_oneCell_toArray (bkC_one _)) ?_)
      | fail)
    refine bodyPost_ret (results_mid2 rfl _ _ w.heap.size 0 (bkC F[n]) _ rfl (World.rangeAt_setCells_same _ _ _ _ HST.out.2.2.2) Tryz.underlying54 rfl (sizeBk _ HST.out.2.2.1)) rfl (.inr ⟨HZ.out, ?_, (below_upd (Upd.below HX.out.2) (upd_row w4 w.heap.size 0 _) (Nat.le_refl _) (fun k e => by omega))⟩)
    rw [Int.toNat_natCast, List.getD_eq_getElem?_getD, List.getElem?_eq_getElem hsn]; rfl
  · have HZ := Lib.hid hz
    have hz' : (hasC F.length s == 0) = false := by simpa using hz
    have hz2 : (hasC F.length s != 0) = true := by simpa using hz
    clear hz
    obtain ⟨z, Hz⟩ : ∃ z : Bk, Hid (z = zB) := ⟨zB, rfl⟩
    have hst : w4.there w.heap.size 0 (bkC z).toArray.size := by rw [Hz.out, bkC_size _ zB_len]; exact hth
    have hst2 : w4.there w.heap.size 0 (bkC z).length := by rw [Hz.out, bkC_len, zB_len]; exact hth
    have hsz2 : (Tryz.prog.info? 54).map (·.size) = some (bkC z).toArray.size := by rw [Hz.out, bkC_size _ zB_len]; exact sizeBk'
    have HST := Lib.hid (And.intro hst (And.intro hsz2 hst2))
    clear hst hst2 hsz2 hth
    go_wp2_with (first
        | (refine wpList_store_mid rfl _ _ _ rfl _ _ (bkC z).toArray rfl (by rw [Hz.out]; rfl) HST.out.1 HST.out.2.1 (all_oneCell_toArray (bkC_one _)) ?_)
        | fail)
    exact bodyPost_ret (results_mid2 rfl _ _ w.heap.size 0 (bkC z) _ rfl (World.rangeAt_setCells_same _ _ _ _ HST.out.2.2) Tryz.underlying54 rfl (by rw [Hz.out]; exact sizeBk zB zB_len)) rfl (.inl ⟨HZ.out, by rw [Hz.out]; rfl, (below_upd (Upd.below HX.out.2) (upd_row w4 w.heap.size 0 _) (Nat.le_refl _) (fun k e => by omega))⟩)
structure DRes where
  F : List Bk
  O : List (Nat × Bk)
  P : List Int
  cd : Int
def Out (S : Nat → Prop) (w : World) (b : Nat) (r : DRes) (e : Ending) (w' : World) : Prop := e = .returned (.int .i64 r.cd) ∧ Dv S w' b r.F r.O r.P ∧ Upd S w w'
def flushR (F : List Bk) (O : List (Nat × Bk)) (P : List Int) : DRes :=
  if fate P = 1 then ⟨F, O, P.tail, 21⟩ else if fate P = 0 then ⟨flushF F O, [], P.tail, 0⟩ else ⟨F, O, P.tail, 0⟩
def writeR (F : List Bk) (O : List (Nat × Bk)) (P : List Int) (s : Nat) (y : Bk) : DRes :=
  if fate P = 1 then ⟨F, O, P.tail, 20⟩ else if fate P = 0 then ⟨F, O ++ [(s, y)], P.tail, 0⟩ else ⟨F, O, P.tail, 0⟩
theorem hasC_in {n s : Nat} (h : s < n) : hasC n (s : Int) = 0 := if_neg (by omega)
theorem dflushR {S : Nat → Prop} {w : World} {b : Nat} {F : List Bk} {O : List (Nat × Bk)} {P : List Int} (h : Dv S w b F O P) (hn : ∀ j, w.heap.size ≤ j → S j) :
    Calls Tryz.prog 46 #[.pointer (some ⟨b, 0, none⟩)] w (Out S w b (flushR F O P)) :=
  (dflush h hn).mono fun e w' h => by
    rcases h with ⟨h1, rfl, hd, hu⟩ | ⟨h1, rfl, hd, hu⟩ | ⟨h1, h2, rfl, hd, hu⟩
    · rw [flushR, if_pos h1]; exact ⟨rfl, hd, hu⟩
    · rw [flushR, if_neg (by omega), if_pos h1]; exact ⟨rfl, hd, hu⟩
    · rw [flushR, if_neg h2, if_neg h1]; exact ⟨rfl, hd, hu⟩
theorem dwriteR {S : Nat → Prop} {w : World} {b : Nat} {F : List Bk} {O : List (Nat × Bk)} {P : List Int} (h : Dv S w b F O P) (hn : ∀ j, w.heap.size ≤ j → S j) (s : Nat) (hs : s < F.length) (x : Bk) (hx : x.length = 64) (hO : O.length < 65536) :
    Calls Tryz.prog 18 #[.pointer (some ⟨b, 0, none⟩), .int .i64 (s : Int), .agg (bkC x).toArray] w (Out S w b (writeR F O P s x)) :=
  (dwrite h hn s x hx hO).mono fun e w' h => by
    have h0 := hasC_in hs
    rcases h with ⟨h1, -⟩ | ⟨-, h1, rfl, hd, hu⟩ | ⟨-, h1, rfl, hd, hu⟩ | ⟨-, h1, h2, rfl, hd, hu⟩
    · exact absurd h0 h1
    · rw [writeR, if_pos h1]; exact ⟨rfl, hd, hu⟩
    · rw [writeR, if_neg (by omega), if_pos h1]; rw [Int.toNat_natCast] at hd; exact ⟨rfl, hd, hu⟩
    · rw [writeR, if_neg h2, if_neg h1]; exact ⟨rfl, hd, hu⟩
def ReadOut (S : Nat → Prop) (w : World) (b : Nat) (F : List Bk) (O : List (Nat × Bk)) (P : List Int) (s : Nat) (e : Ending) (w' : World) : Prop :=
  ∃ (y : Bk) (cd : Int), e = .returned (.tuple #[.agg (bkC y).toArray, .int .i64 cd]) ∧ y = (if fate P = 1 then zB else curB F O s) ∧ cd = (if fate P = 1 then 19 else 0) ∧ y.length = 64 ∧ Dv S w' b F O P.tail ∧ Upd S w w'
theorem dreadR {S : Nat → Prop} {w : World} {b : Nat} {F : List Bk} {O : List (Nat × Bk)} {P : List Int} (h : Dv S w b F O P) (hn : ∀ j, w.heap.size ≤ j → S j) (s : Nat) (hs : s < F.length) :
    Calls Tryz.prog 67 #[.pointer (some ⟨b, 0, none⟩), .int .i64 (s : Int)] w (ReadOut S w b F O P s) :=
  (dread h hn s).mono fun e w' h' => by
    have h0 := hasC_in hs
    rcases h' with ⟨h1, -⟩ | ⟨-, h1, rfl, hd, hu⟩ | ⟨-, h1, rfl, hd, hu⟩
    · exact absurd h0 h1
    · exact ⟨zB, 19, rfl, (if_pos h1).symm, (if_pos h1).symm, zB_len, hd, hu⟩
    · exact ⟨curB F O s, 0, rfl, (if_neg h1).symm, (if_neg h1).symm, curB_len h.good s, hd, hu⟩
theorem Dv.but {S : Nat → Prop} {w : World} {b : Nat} {F : List Bk} {O : List (Nat × Bk)} {P : List Int} (h : Dv S w b F O P) {q : Nat} (hq : w.heap.size ≤ q) : Dv (fun j => S j ∧ j ≠ q) w b F O P :=
  h.shrink (fun j hj hl => ⟨hj, by omega⟩)
def JrAt (w : World) (j : Nat) (d : Nat) (base n seq next : Int) : Prop :=
  w.cell? ⟨j, 0, none⟩ = some (.pointer (some ⟨d, 0, none⟩)) ∧ w.cell? ⟨j, 1, none⟩ = some (.int .i64 base) ∧ w.cell? ⟨j, 2, none⟩ = some (.int .i64 n) ∧
    w.cell? ⟨j, 3, none⟩ = some (.int .i64 seq) ∧ w.cell? ⟨j, 4, none⟩ = some (.int .i64 next)
theorem jnext (w : World) (j d : Nat) (base n seq next : Int) (h : JrAt w j d base n seq next) :
    Calls Tryz.prog 154 #[.pointer (some ⟨j, 0, none⟩)] w fun e w' => e = .returned (.int .i64 next) ∧ w = w' := by
  obtain ⟨h0, h1, h2, h3, h4⟩ := h
  go_enter Tryz.func154, Tryz.ntmps154
  go_wp2
  go_ret
  exact ⟨rfl, rfl⟩
theorem jmay_ok {S : Nat → Prop} {w : World} {b : Nat} {F : List Bk} {O : List (Nat × Bk)} {P : List Int} (h : Dv S w b F O P) (base n : Nat) (h1 : 1 ≤ n) (h2 : n ≤ 1024) (h3 : base + n ≤ F.length) (h4 : F.length ≤ 4096) :
    Calls Tryz.prog 103 #[.pointer (some ⟨b, 0, none⟩), .int .i64 (base : Int), .int .i64 (n : Int)] w fun e w' => e = .returned (.int .i64 0) ∧ w = w' := by
  have q1 : decide ((base : Int) < 0) = false := by simp
  have q2 : decide ((n : Int) < 1) = false := by simp; omega
  have q3 : decide ((n : Int) > 1024) = false := by simp; omega
  have q3' : decide (1024 < (n : Int)) = false := by simp; omega
  have q4 : decide ((base : Int) > F.length - n) = false := by simp; omega
  have q4' : decide ((F.length : Int) - n < (base : Int)) = false := by simp; omega
  go_enter Tryz.func103, Tryz.ntmps103
  go_wp2_with (first
    | (go_at_call 47; refine (dsize h).mono ?_; rintro e w' ⟨rfl, rfl⟩)
    | fail)
  go_ret
  exact ⟨rfl, rfl⟩
structure JnGood (base n cov next : Nat) (W : List (Nat × Bk)) : Prop where
  w64 : ∀ p ∈ W, p.2.length = 64
  lt : ∀ p ∈ W, p.1 < next
  n1 : 1 ≤ n ∧ n ≤ 1024
  wl : W.length + cov + 1 ≤ next
  room : next ≤ cov + n + 1
  mx : next ≤ 1099511627777
  bs : base ≤ 4096
structure JnAt (w : World) (j : Nat) (vw : Value) (d base n cov next : Nat) (W : List (Nat × Bk)) : Prop where
  str : w.heap[j]? = some (.cells #[.pointer (some ⟨d, 0, none⟩), .int .i64 base, .int .i64 n, .int .i64 cov, .int .i64 next, vw] 276 (0, 0))
  ws : Sl w 289 65 vw W.length (opC W)
  wb : vw.ownBlock ≠ some j
  good : JnGood base n cov next W
def jnS (j : Nat) (vw : Value) : Nat → Prop := fun k => k = j ∨ vw.ownBlock = some k
section
variable {w w' : World} {j d base n cov next : Nat} {vw : Value} {W : List (Nat × Bk)}
theorem JnAt.keep (h : JnAt w j vw d base n cov next W) {S : Nat → Prop} (hu : Upd S w w') (hs : ∀ k, jnS j vw k → ¬ S k) : JnAt w' j vw d base n cov next W :=
  { h with
    str := (hu.block _ (lt_of_block h.str) (hs j (.inl rfl))).trans h.str
    ws := h.ws.keep hu (fun g hg => hs g (.inr hg)) }
theorem JnAt.new (h : JnAt w j vw d base n cov next W) (hu : Upd (fun _ => False) w w') : JnAt w' j vw d base n cov next W := h.keep hu (fun _ _ h => h)
theorem JnAt.slt (h : JnAt w j vw d base n cov next W) : ∀ k, jnS j vw k → k < w.heap.size := by
  rintro k (rfl | hk)
  · exact lt_of_block h.str
  · exact h.ws.lt hk
theorem JnAt.c (h : JnAt w j vw d base n cov next W) : w.cell? ⟨j, 0, none⟩ = some (.pointer (some ⟨d, 0, none⟩)) ∧ w.cell? ⟨j, 1, none⟩ = some (.int .i64 base) ∧ w.cell? ⟨j, 2, none⟩ = some (.int .i64 n) ∧
    w.cell? ⟨j, 3, none⟩ = some (.int .i64 cov) ∧ w.cell? ⟨j, 4, none⟩ = some (.int .i64 next) ∧ w.cell? ⟨j, 5, none⟩ = some vw := by
  refine ⟨?_, ?_, ?_, ?_, ?_, ?_⟩ <;> rw [cell_of_block h.str] <;> rfl
theorem JnAt.fz (h : JnAt w j vw d base n cov next W) (i : Nat) : w.frozen? ⟨j, i, none⟩ = false := frozen_of_block h.str i
structure WtAt (w : World) (vw : Value) (next : Nat) (W : List (Nat × Bk)) : Prop where
  ws : Sl w 289 65 vw W.length (opC W)
  w64 : ∀ p ∈ W, p.2.length = 64
  lt : ∀ p ∈ W, p.1 < next
  wl : W.length + 1 ≤ next
  mx : next ≤ 1099511627777
theorem JnAt.wt (h : JnAt w j vw d base n cov next W) : WtAt w vw next W := ⟨h.ws, h.good.w64, h.good.lt, by have := h.good.wl; omega, h.good.mx⟩
theorem WtAt.keep (h : WtAt w vw next W) {S : Nat → Prop} (hu : Upd S w w') (hs : ∀ k, vw.ownBlock = some k → ¬ S k) : WtAt w' vw next W := { h with ws := h.ws.keep hu hs }
theorem WtAt.new (h : WtAt w vw next W) (hu : Upd (fun _ => False) w w') : WtAt w' vw next W := h.keep hu (fun _ _ h => h)
theorem WtAt.range (h : WtAt w vw next W) {k : Nat} (hk : k < W.length) : ∃ g off cap, vw = .slice (some ⟨g, off, none⟩) W.length cap ∧ g < w.heap.size ∧ W.length ≤ cap ∧ w.rangeAt g (off + k * 65) (wrC W[k].1 W[k].2) := by
  obtain ⟨hl, ⟨_, h0⟩ | ⟨g, off, cap, cur, rfl, hg, hn, hm, hs, hc⟩⟩ := h.ws
  · omega
  · refine ⟨g, off, cap, rfl, lt_of_block hg, hn, fun j v hj => ?_⟩
    have hj' := (List.getElem?_eq_some_iff.1 hj).1
    rw [wrC_len, h.w64 _ (List.getElem_mem hk)] at hj'
    rw [cell_of_block hg, Nat.add_assoc]
    exact hc _ _ (by rw [opC_at h.w64 hk hj']; exact hj)
theorem JnAt.range (h : JnAt w j vw d base n cov next W) {k : Nat} (hk : k < W.length) : ∃ g off cap, vw = .slice (some ⟨g, off, none⟩) W.length cap ∧ g < w.heap.size ∧ W.length ≤ cap ∧ w.rangeAt g (off + k * 65) (wrC W[k].1 W[k].2) := h.wt.range hk
end
def Jn (S : Nat → Prop) (w : World) (j d base n cov next : Nat) (W : List (Nat × Bk)) : Prop := ∃ vw, JnAt w j vw d base n cov next W ∧ ∀ k, jnS j vw k → S k
theorem Jn.thing (j d base n cov next : Nat) (W : List (Nat × Bk)) : Thing (fun S w => Jn S w j d base n cov next W) where
  keep := fun h hu hs => by
    obtain ⟨v, h, hS⟩ := h
    exact ⟨v, h.keep hu (fun j hj => hs j (hS j hj)), hS⟩
  out := fun h hs => by
    obtain ⟨v, h, hS⟩ := h
    exact ⟨v, h, fun j hj => hs j (h.slt j hj) (hS j hj)⟩
theorem Jn.good {S : Nat → Prop} {w : World} {j d base n cov next : Nat} {W : List (Nat × Bk)} (h : Jn S w j d base n cov next W) : JnGood base n cov next W := by obtain ⟨v, h, -⟩ := h; exact h.good
theorem jnext_any {S : Nat → Prop} {w : World} {j d base n cov next : Nat} {W : List (Nat × Bk)} (h : Jn S w j d base n cov next W) :
    Calls Tryz.prog 154 #[.pointer (some ⟨j, 0, none⟩)] w fun e w' => e = .returned (.int .i64 (next : Int)) ∧ w = w' := by
  obtain ⟨v, h, -⟩ := h
  obtain ⟨c0, c1, c2, c3, c4, c5⟩ := h.c
  exact jnext w j d base n cov next ⟨c0, c1, c2, c3, c4⟩
theorem jnew_any {S : Nat → Prop} {T : Nat → Prop} {w : World} {b : Nat} {F : List Bk} {O : List (Nat × Bk)} {P : List Int} (h : Dv T w b F O P) (hn : ∀ j, w.heap.size ≤ j → S j) (base n seq : Nat) (h1 : 1 ≤ n) (h2 : n ≤ 1024) (h3 : base + n ≤ F.length) (h5 : seq < 1099511627776) :
    Calls Tryz.prog 131 #[.pointer (some ⟨b, 0, none⟩), .int .i64 (base : Int), .int .i64 (n : Int), .int .i64 (seq : Int)] w fun e w' => ∃ j, e = .returned (.tuple #[.pointer (some ⟨j, 0, none⟩), .int .i64 0]) ∧
      Jn S w' j b base n seq (seq + 1) [] ∧ w.heap.size ≤ j ∧ Below w.heap.size w w' := by
  have h4 := h.good.fl
  have q1 : decide ((seq : Int) < 0) = false := by simp
  have q2 : decide ((seq : Int) ≥ 1099511627776) = false := by simp; omega
  have hs : ¬ (1099511627776 ≤ (seq : Int)) := by omega
  go_enter Tryz.func131, Tryz.ntmps131
  go_wp2_with (first
    | (go_at_call 103; refine (jmay_ok h base n h1 h2 h3 h4).mono ?_; rintro e w' ⟨rfl, rfl⟩)
    | fail)
  go_ret2
  have hb := heap_alloc_last w (.cells #[.pointer (some ⟨b, 0, none⟩), .int .i64 (base : Int), .int .i64 (n : Int), .int .i64 (seq : Int), .int .i64 ((seq : Int) + 1), .slice none 0 0] 276) rfl
  refine ⟨w.heap.size, rfl, ⟨.slice none 0 0, ⟨?_, Sl.nil _ _ _, by simp [Value.ownBlock], ⟨by simp, by simp, ⟨h1, h2⟩, by simp, by omega, by omega, by omega⟩⟩, ?_⟩, Nat.le_refl _, (Below.refl _ w).alloc (Nat.le_refl _) _⟩
  · rw [hb]
    simp
  · rintro k (rfl | hk)
    · exact hn _ (Nat.le_refl _)
    · cases hk
theorem infoWt : (Tryz.prog.info? 289).map (·.size) = some 65 := by kernel_rfl
theorem sizeWt (s : Int) (x : Bk) (hx : x.length = 64) : (Tryz.prog.info? 289).map (·.size) = some (wrC s x).length := by
  rw [infoWt, wrC_len, hx]
theorem zero_wt : Tryz.zeroCells289.size = 65 := by kernel_rfl
set_option maxRecDepth 100000 in
theorem jcov1 (w : World) (q : Nat) (s : Int) (hq : w.cell? ⟨q, 0, none⟩ = some (.int .i64 s)) (x : Nat) (y : Bk) (hx : (x : Int) ≤ s) :
    Calls Tryz.prog 219 #[.agg (wrC (x : Int) y).toArray, .pointer (some ⟨q, 0, none⟩)] w fun e w' => e = .returned (.bool true) ∧ Below w.heap.size w w' := by
  have hqb : q < w.heap.size := (addr_of_cell hq).2
  obtain ⟨L, hL⟩ : ∃ L, L = (wrC (x : Int) y).toArray := ⟨_, rfl⟩
  have h0 : L[0]? = some (.int .i64 (x : Int)) := by rw [hL]; rfl
  have q1 : decide ((x : Int) ≤ s) = true := by simpa using hx
  have hq1 : (w.alloc (.cells L 289)).cell? ⟨q, 0, none⟩ = some (.int .i64 s) := cell_keep_alloc hq _
  have hc : (w.alloc (.cells L 289)).cell? ⟨w.heap.size, 0, none⟩ = some (.int .i64 (x : Int)) := (cell_of_block (heap_alloc_last w _ rfl) 0).trans h0
  rw [← hL]
  clear hL hq
  go_enter Tryz.func219, Tryz.ntmps219
  go_wp2
  go_ret
  exact ⟨rfl, (Below.refl _ _).alloc (Nat.le_refl _) _⟩
def idxI (l : List Int) (k : Int) : Int := match l.findIdx? (· == k) with | some i => (i : Int) | none => -1
theorem idxI_hit {l : List Int} {k : Int} {i : Nat} (hi : i < l.length) (he : l[i] = k) (hb : ∀ j (h : j < l.length), j < i → l[j] ≠ k) : idxI l k = i := by
  unfold idxI
  have : l.findIdx? (· == k) = some i := by
    rw [List.findIdx?_eq_some_iff_getElem]
    exact ⟨hi, by simpa using he, fun j hj => by simpa using hb j (by omega) hj⟩
  rw [this]
theorem idxI_none {l : List Int} {k : Int} (hb : ∀ j (h : j < l.length), l[j] ≠ k) : idxI l k = -1 := by
  unfold idxI
  have : l.findIdx? (· == k) = none := by
    rw [List.findIdx?_eq_none_iff]
    intro x hx
    obtain ⟨j, hj, rfl⟩ := List.getElem_of_mem hx
    simpa using hb j hj
  rw [this]
theorem sindex_any {w : World} {v : Value} {l : List Int} (h : Rd w 1 v l.length (ints l)) (hle : l.length ≤ 4096) (k : Int) :
    Calls Tryz.prog 320 #[v, .int .i64 k] w fun e w' => e = .returned (.int .i64 (idxI l k)) ∧ w' = w := by
  have H := Lib.hid h
  obtain ⟨ao, c, rfl⟩ := h.nil_iff
  clear h
  go_enter Tryz.func320, Tryz.ntmps320
  go_wp2
  go_loopg [8] l.length (fun g i wr => ∃ j : Nat, j + g = l.length ∧ i = .int .i64 j ∧ (∀ m (h : m < l.length), m < j → l[m] ≠ k) ∧ wr = w)
  case atStart => exact ⟨0, by omega, rfl, fun m h hm => by omega, rfl⟩
  case round =>
    obtain ⟨j, hj, rfl, hno, rfl⟩ := hrel
    by_cases hlt : j < l.length
    · obtain ⟨g, off, c', hv, hg, hc⟩ := H.out.at (by omega)
      cases hv
      have hcj := hc j _ (get_ints hlt)
      have HN := Lib.hid hno
      clear hc hno
      by_cases he : l[j] = k
      · have hb : (k == l[j]) = true := by simp [he]
        have ha : Hid (idxI l k = j) := idxI_hit hlt he HN.out
        clear he
        go_wp2
        go_ret
        exact ⟨by rw [ha.out]; rfl, rfl⟩
      · have hb : (k == l[j]) = false := by simp; exact fun e => he e.symm
        have hne : Hid (l[j] ≠ k) := he
        clear he
        go_wp2
        go_roundg (gk - 1)
        case measure => omega
        case rel => exact ⟨j + 1, by omega, by go_num, fun m hm hmj => by
          by_cases e : m = j
          · subst e; exact hne.out
          · exact HN.out m hm (by omega), rfl⟩
    · obtain rfl : j = l.length := by omega
      have ha : Hid (idxI l k = -1) := idxI_none (fun m hm => hno m hm hm)
      clear hno
      go_wp2
      go_ret
      exact ⟨by rw [ha.out]; rfl, rfl⟩
theorem find_idle (p : Value) (w : World) :
    CallsD Tryz.prog 319 #[p] .returning w fun e u' w' => e = .returned (.tuple #[]) ∧ u' = .returning ∧ w' = w := by
  refine callsD_of_wpS Tryz.func319 rfl fun c₀ cs hu => ?_
  apply wpS_seq
  apply wpS_region
  simp [wpOpsS, go_sem, recoverD, hu, Tryz.ntmps319, Exit.thenS]
  refine wpS_cond (t := false) (by simp [Act.eval, Array.replicate]) ?_
  simp only [Bool.false_eq_true, if_false]
  refine wpS_of_wp (wp_skip ?_)
  cases c₀
  simp_all [bodyPostS, results, Tryz.results319]
theorem wasAsked_idle (p : Value) (w : World) :
    CallsD Tryz.prog 302 #[p] .returning w fun e u' w' => e = .returned (.tuple #[]) ∧ u' = .returning ∧ w' = w := by
  refine callsD_of_wpS Tryz.func302 rfl fun c₀ cs hu => ?_
  apply wpS_seq
  apply wpS_region
  simp [wpOpsS, go_sem, recoverD, hu, Tryz.ntmps302, Exit.thenS]
  refine wpS_cond (t := false) (by simp [Act.eval, Array.replicate]) ?_
  simp only [Bool.false_eq_true, if_false]
  refine wpS_of_wp (wp_skip ?_)
  cases c₀
  simp_all [bodyPostS, results, Tryz.results302]
theorem evict_idle (p : Value) (w : World) :
    CallsD Tryz.prog 234 #[p] .returning w fun e u' w' => e = .returned (.tuple #[]) ∧ u' = .returning ∧ w' = w := by
  refine callsD_of_wpS Tryz.func234 rfl fun c₀ cs hu => ?_
  apply wpS_seq
  apply wpS_region
  simp [wpOpsS, go_sem, recoverD, hu, Tryz.ntmps234, Exit.thenS]
  refine wpS_cond (t := false) (by simp [Act.eval, Array.replicate]) ?_
  simp only [Bool.false_eq_true, if_false]
  refine wpS_of_wp (wp_skip ?_)
  cases c₀
  simp_all [bodyPostS, results, Tryz.results234]
set_option maxRecDepth 100000 in
theorem find_any {w : World} {v : Value} {l : List Int} (h : Rd w 1 v l.length (ints l)) (hle : l.length ≤ 4096) (k : Int) :
    Calls Tryz.prog 273 #[v, .int .i64 k] w fun e w' => e = .returned (.int .i64 (idxI l k)) ∧ Below w.heap.size w w' := by
  have hmf : ∀ (fn : Fn) (first cap : Array Value) (w : World), (Instr.makeFunc fn first cap).run Tryz.prog w = .ok (.func fn first cap) w := fun _ _ _ _ => rfl
  have HF := Lib.hid (fun (w1 : World) (h1 : Rd w1 1 v l.length (ints l)) => sindex_any h1 hle k)
  have H := Lib.hid h
  clear h
  go_enter_defers Tryz.func273, Tryz.ntmps273
  go_wp2_with fail
  refine (HF.out _ (H.out.keep ((Upd.refl (fun _ => False) w).alloc _) (fun _ _ h => h))).mono ?_
  rintro e w1 ⟨rfl, rfl⟩
  go_wp2
  refine leaves_cons (f := 319) (args := #[.pointer (some ⟨w.heap.size, 0, none⟩)]) (by simp) (by simp [go_sem]) ?_
  refine (find_idle _ _).mono ?_
  rintro e u' w'' ⟨rfl, rfl, rfl⟩
  simp [Leaves, settle, results, Tryz.results273, go_sem]
  exact (Below.refl _ _).alloc (Nat.le_refl _) _
end Go.Proofs.YtfhfbpmlnjdfoaaGreatDoor
namespace Go.Proofs.YtfhfbpmlnjdfoaaGreatDoor
open Go Go.RowKit Go.ChangeShapes Go.WideShapes Go.ChangeAt
section
variable {H : Type} {enc : TypeId × Value → H} {P : Program}
theorem trodAll_stays (hl : laidOutB P = true) {W W' : World} (hb : Below W.heap.size W W') : ∀ (ts : List TypeId) (vs : List Value) (ds : List (DataW H)) (ps : List MemPlace),
    (∀ t ∈ ts, P.readableRec t = true ∧ t < P.types.size) → DataW.TrodAll enc P W 0 (fun _ => true) true ts vs ds ps → (∀ x ∈ ps, x.block < W.heap.size) →
    DataW.TrodAll enc P W' 0 (fun b => decide (b < W.heap.size)) true ts vs ds ps := by
  intro ts
  induction ts with
  | nil =>
    intro vs ds ps _ h _
    cases vs <;> cases ds <;> simp [DataW.TrodAll] at h ⊢
    exact h
  | cons t ts ih =>
    intro vs ds ps ht h hlt
    cases vs <;> cases ds <;> simp only [DataW.TrodAll] at h ⊢
    obtain ⟨p, q, h1, h2, rfl⟩ := h
    obtain ⟨hr, hs⟩ := ht t (by simp)
    exact ⟨p, q, Below.trod hl hr hs h1 hb (fun x hx => hlt x (by simp [hx])), ih _ _ _ (fun t' ht' => ht t' (by simp [ht'])) h2 (fun x hx => hlt x (by simp [hx])), rfl⟩
theorem law_post {f : Func} {s : ChangeSpec} {W W' : World} {args : Array Value} {ds gs : List (DataW H)} {before : List MemPlace} {T : TypeId}
    (hl : laidOutB P = true) (hts : f.params.toList.all (fun t => P.readableRec t && decide (t < P.types.size)) = true)
    (hres : f.resultTypes = #[T]) (hbool : P.underlying T = some .bool) (hvars : s.vars = [])
    (hfn : s.fn H (ds ++ gs) = { results := [.lit (.bool true)], args := ds })
    (hW : DataW.Whole enc P f.params.toList s.vars false W args.toList ds gs before) (hb : Below W.heap.size W W') :
    s.post enc P f false true false false W args (.bool true) W' := by
  have hlt : ∀ x ∈ before, x.block < W.heap.size := fun x hx => by simpa using hW.lt x hx
  have hW' := hW
  obtain ⟨p, q, hA, hV, rfl, hz, hn⟩ := hW
  rw [hvars] at hV
  refine ⟨ds, gs, p ++ q, [], p, [], hW', ?_, ?_, ?_, hb.frame _, fun h => by cases h⟩
  · rw [hres, hfn]
    exact trodAll_cons_mk (shut_bool hbool true) trodAll_mk0
  · rw [hfn]
    exact trodAll_stays hl hb _ _ _ _ (fun t ht => by have := List.all_eq_true.1 hts t ht; simpa using this) hA (fun x hx => hlt x (by simp [hx]))
  · rw [hvars, hfn]; rfl
theorem flat_at {α : Type} {f : α → List Value} {k : Nat} (hf : ∀ a, (f a).length = k) : ∀ (l : List α) (i j : Nat), j < k → ∀ a, l[i]? = some a → (l.flatMap f)[i * k + j]? = (f a)[j]? := by
  intro l
  induction l with
  | nil => intro i j _ a h; simp at h
  | cons b l ih =>
    intro i j hj a h
    cases i with
    | zero => simp at h; subst h; rw [List.flatMap_cons, Nat.zero_mul, Nat.zero_add, List.getElem?_append_left (by rw [hf]; exact hj)]
    | succ i =>
      simp at h
      have e : (i + 1) * k + j - (f b).length = i * k + j := by rw [hf, Nat.add_mul]; omega
      rw [List.flatMap_cons, List.getElem?_append_right (by rw [hf, Nat.add_mul]; omega), e]
      exact ih i j hj a h
theorem length_flat {α : Type} {f : α → List Value} {k : Nat} (hf : ∀ a, (f a).length = k) (l : List α) : (l.flatMap f).length = l.length * k := by
  induction l with
  | nil => simp
  | cons b l ih => rw [List.flatMap_cons, List.length_append, ih, hf, List.length_cons, Nat.add_mul]; omega
theorem open_rd {α : Type} [Inhabited α] (f : α → List Value) (φ : α → Prop) {k : Nat} (hf : ∀ a, (f a).length = k) (hk : 0 < k) {W : World} {base : Nat} {t e : TypeId} {v : Value} {d : DataW H} {p : List MemPlace} (ht : P.underlying t = some (.slice e)) (hc : P.cellsOf e = k)
    (hel : ∀ (n : Nat) (cs : List Value) (x : DataW H × List MemPlace), DataW.trod enc P W 0 (fun _ => true) true n e cs = some x → ∃ a, cs = f a ∧ φ a)
    (hok : Value.okWide P W .any base t v) (h : DataW.Trod enc P W 0 (fun _ => true) true t v d p) :
    ∃ l : List α, Rd W k v l.length (l.flatMap f) ∧ ∀ a ∈ l, φ a := by
  obtain ⟨a0, len0, cap0, rfl⟩ := okWide_slice ht hok
  obtain ⟨fuel, hfu⟩ := h
  rcases Deep.open_slice ht hfu with ⟨hcs, hx⟩ | ⟨a, len, cap, m, n, D, Pl, hcs, _, hl, hm, hmm, hx, hcell⟩
  · simp only [Value.cells, List.cons.injEq, Value.slice.injEq, and_true] at hcs
    obtain ⟨rfl, rfl, rfl⟩ := hcs
    exact ⟨[], ⟨by simp, by simp [maxLen], none, 0, rfl, fun _ => rfl, fun b hb => by cases hb⟩, by simp⟩
  · simp only [Value.cells, List.cons.injEq, Value.slice.injEq, and_true] at hcs
    obtain ⟨rfl, rfl, rfl⟩ := hcs
    have hmc : m = cap0 := by simpa using hmm
    have hex : ∀ i, ∃ x : α, i < len0 → W.cells? 0 (a.add (i * k)) k = some (f x) ∧ φ x := by
      intro i
      by_cases hi : i < len0
      · obtain ⟨cs', h1, h2⟩ := hcell i (by omega)
        obtain ⟨x, rfl, hφ⟩ := hel _ _ _ h2
        rw [hc] at h1
        exact ⟨x, fun _ => ⟨h1, hφ⟩⟩
      · exact ⟨default, fun h => absurd h hi⟩
    have hch : ∃ g : Nat → α, ∀ i, i < len0 → W.cells? 0 (a.add (i * k)) k = some (f (g i)) ∧ φ (g i) := ⟨fun i => Classical.choose (hex i), fun i => Classical.choose_spec (hex i)⟩
    obtain ⟨g, hg⟩ := hch
    refine ⟨(List.range len0).map g, ⟨length_flat hf _, by simp; omega, some a, cap0, by simp, (fun h => by cases h), fun b hb j u hj => ?_⟩, ?_⟩
    · cases hb
      have hjl := (List.getElem?_eq_some_iff.1 hj).1
      rw [length_flat hf, List.length_map, List.length_range] at hjl
      have hi : j / k < len0 := (Nat.div_lt_iff_lt_mul hk).2 hjl
      have hjk : j % k < k := Nat.mod_lt _ hk
      have he : j / k * k + j % k = j := by rw [Nat.mul_comm]; exact Nat.div_add_mod j k
      rw [← he] at hj
      rw [flat_at hf _ (j / k) (j % k) hjk (g (j / k)) (by simp [hi])] at hj
      obtain ⟨_, _, h3⟩ := World.cells?_some (hg _ hi).1
      have h4 := h3 (j % k) hjk
      rw [hj] at h4
      have e2 : (a.add (j / k * k)).add (j % k) = a.add j := by
        have : ∀ (x y : Nat), (a.add x).add y = a.add (x + y) := by
          intro x y; unfold Addr.add; by_cases h1 : x = 0 <;> by_cases h2 : y = 0 <;> simp [h1, h2, Nat.add_assoc]
        rw [this, he]
      rw [← e2]; exact h4
    · intro x hx
      obtain ⟨i, hi, rfl⟩ := List.mem_map.1 hx
      exact (hg i (by simpa using hi)).2
end
end Go.Proofs.YtfhfbpmlnjdfoaaGreatDoor
