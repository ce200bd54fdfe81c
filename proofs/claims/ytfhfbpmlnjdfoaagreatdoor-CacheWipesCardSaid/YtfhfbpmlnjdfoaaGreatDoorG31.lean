/- lavabolaw14.Does: a call, and what is noted, whatever is planned. Maps from ints to values of whatever form, in memory, as functions; a range over one. A goal at which a walk stops. -/
import Derived.Test.YtfhfbpmlnjdfoaaGreatDoorG29
import Derived.Test.YtfhfbpmlnjdfoaaGreatDoorG30
import Derived.Test.YtfhfbpmlnjdfoaaGreatDoorG15
import Derived.Test.YtfhfbpmlnjdfoaaGreatDoorG22
import Derived.Test.YtfhfbpmlnjdfoaaGreatDoorG20
import Derived.Test.YtfhfbpmlnjdfoaaGreatDoorG04
import Derived.Maps.RangeWalk
import Derived.Test.YtfhfbpmlnjdfoaaGreatDoorG01
namespace Go.Proofs.YtfhfbpmlnjdfoaaGreatDoor
open Go Go.RowKit
theorem did_zero {own own' : Nat → Nat} {w w' : World} {b : Nat} {o : Obj} (d : Did own own' w w') (hb : w.heap[b]? = some o) (h0 : own b = 0) : w'.heap[b]? = some o ∧ own' b = 0 :=
  ⟨(d.upd.block _ (lt_of_block hb) (fun h => h.1 h0)).trans hb, (d.old _ (lt_of_block hb)).trans h0⟩
structure Run14 (own : Nat → Nat) (w : World) (c : Nat) (n : CaN) (p : CaP) (a : CaS) (N : Nat) (B : Nat → Prop) (pp M : Nat) (vo : Value) (xs : List Value) : Prop where
  ca : CaAt own w c n p a
  gd : a.Gd n N
  ps : Pst B w pp n.bl M vo xs
  ob : ∀ j, B j → j < w.heap.size → own j = 0 ∧ j ≠ 0 ∧ j ≠ 1
def Did14 (own : Nat → Nat) (w : World) (B : Nat → Prop) (own' : Nat → Nat) (w' : World) (B' : Nat → Prop) : Prop :=
  Upd (fun j => own j ≠ 0 ∨ B j) w w' ∧ (∀ j, j < w.heap.size → own' j = own j) ∧ ∀ j, j < w.heap.size → B' j → B j
def Does14 (own : Nat → Nat) (w : World) (c : Nat) (n : CaN) (p : CaP) (a' : CaS) (N : Nat) (B : Nat → Prop) (pp M : Nat) (e : Ending) (w' : World) : Prop :=
  ∃ (cd : Int) (ok : Bool), e = .returned (.tuple #[.int .i64 cd, .bool ok]) ∧ ∃ own' B' vo' xs', Run14 own' w' c n p a' N B' pp M vo' xs' ∧ Did14 own w B own' w' B'
section
variable {own : Nat → Nat} {w w' : World} {c : Nat} {n : CaN} {p : CaP} {a : CaS} {N : Nat} {B : Nat → Prop} {pp M : Nat} {vo : Value} {xs : List Value}
theorem Did14.refl (own : Nat → Nat) (w : World) (B : Nat → Prop) : Did14 own w B own w B := ⟨Upd.refl _ w, fun _ _ => rfl, fun _ _ h => h⟩
theorem Did14.trans {own2 own3 : Nat → Nat} {w2 w3 : World} {B2 B3 : Nat → Prop} (h : Did14 own w B own2 w2 B2) (g : Did14 own2 w2 B2 own3 w3 B3) : Did14 own w B own3 w3 B3 :=
  ⟨h.1.new g.1 (fun i hi hs => by
    rcases hs with hs | hs
    · rw [h.2.1 i hi] at hs; exact .inl hs
    · exact .inr (h.2.2 i hi hs)), fun j hj => (g.2.1 j (Nat.lt_of_lt_of_le hj h.1.size)).trans (h.2.1 j hj), fun j hj hb => h.2.2 j hj (g.2.2 j (Nat.lt_of_lt_of_le hj h.1.size) hb)⟩
theorem Run14.did {own' : Nat → Nat} {a' : CaS} {N' : Nat} (h : Run14 own w c n p a N B pp M vo xs) (hca : CaAt own' w' c n p a') (hr : a'.Gd n N') (d : Did own own' w w') :
    Run14 own' w' c n p a' N' (fun j => B j ∧ j < w.heap.size) pp M vo xs ∧ Did14 own w B own' w' (fun j => B j ∧ j < w.heap.size) := by
  have hlt : ∀ j, B j → j < w.heap.size → own j = 0 := fun j hb hj => (h.ob j hb hj).1
  have hps : Pst (fun j => B j ∧ j < w.heap.size) w pp n.bl M vo xs :=
    { h.ps with
      bp := ⟨h.ps.bp, lt_of_block h.ps.str⟩
      bo := fun g hg => ⟨⟨(h.ps.bo g hg).1, h.ps.o.lt hg⟩, (h.ps.bo g hg).2⟩
      bx := fun x hx g hg => ⟨⟨(h.ps.bx x hx g hg).1, by obtain ⟨L, -, -, -, hs⟩ := h.ps.els x hx; exact hs.lt hg⟩, (h.ps.bx x hx g hg).2⟩ }
  refine ⟨⟨hca, hr, hps.keep d.upd (fun j hj hs => hs.1 (hlt j hj.1 hj.2)), fun j hj _ => ?_⟩, d.upd.mono (fun j hj hs => .inl hs.1), d.old, fun j hj hb => hb.1⟩
  obtain ⟨h1, h2, h3⟩ := h.ob j hj.1 hj.2
  exact ⟨(d.old j hj.2).trans h1, h2, h3⟩
theorem Run14.past {M' : Nat} {vo' : Value} {xs' : List Value} (h : Run14 own w c n p a N B pp M vo xs) (hP : Pst (fun j => B j ∨ w.heap.size ≤ j) w' pp n.bl M' vo' xs') (hu : Upd (fun j => B j ∨ w.heap.size ≤ j) w w') :
    Run14 own w' c n p a N (fun j => (B j ∧ j < w.heap.size) ∨ w.heap.size ≤ j) pp M' vo' xs' ∧ Did14 own w B own w' (fun j => (B j ∧ j < w.heap.size) ∨ w.heap.size ≤ j) := by
  have hu2 : Upd (fun j => B j ∧ j < w.heap.size) w w' := hu.mono (fun j hj hs => by rcases hs with hs | hs; exact ⟨hs, hj⟩; omega)
  have hca := h.ca.nobody hu2 (fun j hj => h.ob j hj.1 hj.2)
  refine ⟨⟨hca, h.gd, ?_, fun j hj hlt => ?_⟩, hu.mono (fun j hj hs => by rcases hs with hs | hs; exact .inr hs; omega), fun _ _ => rfl, fun j hj hb => ?_⟩
  · exact hP.wide (fun j hj => by
      rcases Nat.lt_or_ge j w.heap.size with h1 | h1
      · rcases hj with hb | hb
        · exact .inl ⟨hb, h1⟩
        · omega
      · exact .inr h1)
  · rcases hj with hj | hj
    · exact h.ob j hj.1 hj.2
    · have h1 := h.ca.nib.lt
      have h2 := h.ca.tur.lt
      exact ⟨h.ca.far j hj, by omega, by omega⟩
  · rcases hb with hb | hb
    · exact hb.1
    · omega
theorem Run14.mono (h : Run14 own w c n p a N B pp M vo xs) {N' M' : Nat} (hN : N ≤ N') (hM : M ≤ M') : Run14 own w c n p a N' B pp M' vo xs :=
  ⟨h.ca, h.gd.mono hN, { h.ps with els := fun x hx => by obtain ⟨L, h1, h2, h3⟩ := h.ps.els x hx; exact ⟨L, h1, Nat.le_trans h2 hM, h3⟩ }, h.ob⟩
theorem Run14.new (h : Run14 own w c n p a N B pp M vo xs) (hu : Upd (fun _ => False) w w') : Run14 own w' c n p a N B pp M vo xs ∧ Did14 own w B own w' B :=
  ⟨⟨h.ca.new hu, h.gd, h.ps.keep hu (fun _ _ h => h), fun j hb hj => by
    rcases Nat.lt_or_ge j w.heap.size with h1 | h1
    · exact h.ob j hb h1
    · have h2 := h.ca.nib.lt
      have h3 := h.ca.tur.lt
      exact ⟨h.ca.far j h1, by omega, by omega⟩⟩, hu.mono (fun _ _ h => h.elim), fun _ _ => rfl, fun _ _ h => h⟩
set_option maxRecDepth 100000 in
set_option maxHeartbeats 4000000 in
theorem does14 (h : Run14 own w c n p a N B pp M vo xs) (hN : N + 3 * n.pa + n.jo + 6 ≤ 50000) (hM : M ≤ 1000) (hM1 : 1 ≤ M) (dd blk md : Int) (nv : Nat) (hnv : nv ≤ 255) :
    Calls Tryz.prog 32 #[ptr c, ptr pp, .agg #[.int .i64 dd, .int .i64 blk, .int .i64 (nv : Int), .int .i64 md]] w (Does14 own w c n p (a.does14 n dd blk nv md).1 (N + 3 * n.pa + n.jo + 6) B pp (M + 2)) := by
  obtain ⟨w1, hw1⟩ : ∃ w1, w1 = w.alloc (.cells #[.int .i64 dd, .int .i64 blk, .int .i64 (nv : Int), .int .i64 md] 84) := ⟨_, rfl⟩
  have hu1 : Upd (fun _ => False) w w1 := by rw [hw1]; exact (Upd.refl _ w).alloc _
  have g1 : w1.heap[w.heap.size]? = some (.cells #[.int .i64 dd, .int .i64 blk, .int .i64 (nv : Int), .int .i64 md] 84 (0, 0)) := by rw [hw1]; exact heap_alloc_last w _ rfl
  obtain ⟨q, hq⟩ : ∃ q, q = w.heap.size := ⟨_, rfl⟩
  have hNm := h.ps.o.le
  have hgd := h.gd.does14 h.ca.jg h.ca.nx1 h.ca.ok.j1 dd blk nv md
  obtain ⟨⟨RA, RC⟩, hR⟩ : ∃ r, r = a.does14 n dd blk nv md := ⟨_, rfl⟩
  rw [← hR] at hgd ⊢
  dsimp only at hgd ⊢
  have HR := Lib.hid (And.intro hR hgd)
  obtain ⟨ao, cap, hvo⟩ := h.ps.o.rd.nil_iff
  subst hvo
  have c0 := cell_of_block h.ps.str 0
  simp only [List.getElem?_toArray, List.getElem?_cons_zero] at c0
  have cp := hu1.cellv c0 (fun h => h)
  have cd0 := cell_of_block g1 0
  have cd1 := cell_of_block g1 1
  have cd2 := cell_of_block g1 2
  have cd3 := cell_of_block g1 3
  simp only [List.getElem?_toArray, List.getElem?_cons_zero, List.getElem?_cons_succ] at cd0 cd1 cd2 cd3
  rw [← hq] at cd0 cd1 cd2 cd3
  have H := Lib.hid (And.intro h (And.intro hu1 (And.intro g1 hw1)))
  have HQ := Lib.hid hq
  clear h hu1 g1 c0 hw1 hq hR hgd
  go_enter Tryz.func32, Tryz.ntmps32
  go_wp2_with fail
  rw [← H.out.2.2.2, ← HQ.out]
  refine wp_region_held_drew (S := fun W => W.cell? ⟨q, 1, none⟩ = some (.int .i64 blk) ∧ W.cell? ⟨pp, 0, none⟩ = some (.slice ao n.bl cap)) (by kernel_rfl) (⟨by rw [World.cell?_drew]; exact cd1, by rw [World.cell?_drew]; exact cp⟩) (fun hHeld => ?_)
  refine Wl.i [0, 1] ?_; iterate 2 refine Wl.t hHeld ?_
  refine Wl.o ?_
  obtain ⟨th, hth⟩ : ∃ th : Bool, (th = true ↔ 0 ≤ blk ∧ blk < (n.bl : Int)) := ⟨decide (0 ≤ blk ∧ blk < (n.bl : Int)), by simp⟩
  have HT := Lib.hid hth
  by_cases hb0 : 0 ≤ blk
  case' pos =>
    refine wpAnyH_take (i := 2) (v := .bool true) rfl (by kernel_rfl) (by kernel_rfl) (by kernel_rfl) (fun _ _ _ h => h) (Or.inl ⟨by rfl, ?_⟩) hHeld ?_
    · intro W hSw
      go_simp
    simp only [List.getElem_toArray, List.getElem_cons_succ, List.getElem_cons_zero, Act.put, List.setIfInBounds_toArray, List.set_cons_zero, List.set_cons_succ]
    refine Wl.i [3, 4, 5, 6, 7, 8, 9, 10] ?_; iterate 8 refine Wl.t hHeld ?_
    refine Wl.o ?_
    refine wpAnyH_take (i := 11) (v := .bool th) rfl (by kernel_rfl) (by kernel_rfl) (by kernel_rfl) (fun _ _ _ h => h) (Or.inl ⟨by rfl, ?_⟩) hHeld ?_
    · intro W hSw
      have e : th = decide (blk < (n.bl : Int)) := by
        cases th
        · simp only [Bool.false_eq_true, false_iff, not_and] at hth
          have := hth hb0
          simp; omega
        · have := (hth.1 rfl).2
          simp; omega
      subst e
      go_simp
    simp only [List.getElem_toArray, List.getElem_cons_succ, List.getElem_cons_zero, Act.put, List.setIfInBounds_toArray, List.set_cons_zero, List.set_cons_succ]
  case' neg =>
    have hf : th = false := by cases th; rfl; exact absurd (hth.1 rfl).1 hb0
    subst hf
    refine wpAnyH_take (i := 2) (v := .bool false) rfl (by kernel_rfl) (by kernel_rfl) (by kernel_rfl) (fun _ _ _ h => h) (Or.inl ⟨by rfl, ?_⟩) hHeld ?_
    · intro W hSw
      go_simp
    simp only [List.getElem_toArray, List.getElem_cons_succ, List.getElem_cons_zero, Act.put, List.setIfInBounds_toArray, List.set_cons_zero, List.set_cons_succ]
    refine Wl.i [3, 4, 5, 6, 7, 8, 9, 10, 11] ?_; iterate 9 refine Wl.t hHeld ?_
    refine Wl.o ?_
  all_goals (try clear hb0)
  all_goals try cases th
  all_goals
    clear hth
    refine Wl.i [12] ?_; refine Wl.t hHeld ?_
    refine Wl.o ?_
    refine Wl.r 13 (fun K hK => ?_)
    go_simp
    refine hK.out _ _ hHeld (fun _ => ?_)
    clear hK K
    refine Wl.d ?_
    have u01 : Upd (fun _ => False) w w1.drew := H.out.2.1.trans ((Upd.refl (fun _ => False) w1).drew)
    have R1 := H.out.1.did (H.out.1.ca.new u01) H.out.1.gd (H.out.1.ca.didNew u01)
    have g1 : w1.drew.heap[q]? = some (.cells #[.int .i64 dd, .int .i64 blk, .int .i64 (nv : Int), .int .i64 md] 84 (0, 0)) := by rw [HQ.out]; exact H.out.2.2.1
    have oq : own q = 0 := by rw [HQ.out]; exact H.out.1.ca.far _ (Nat.le_refl _)
    have H1 := Lib.hid (And.intro R1 (And.intro g1 oq))
    have e0 : w1.drew.cell? ⟨q, 0, none⟩ = some (.int .i64 dd) := by rw [World.cell?_drew]; exact cd0
    have e1 : w1.drew.cell? ⟨q, 1, none⟩ = some (.int .i64 blk) := by rw [World.cell?_drew]; exact cd1
    have e2 : w1.drew.cell? ⟨q, 2, none⟩ = some (.int .i64 (nv : Int)) := by rw [World.cell?_drew]; exact cd2
    have e3 : w1.drew.cell? ⟨q, 3, none⟩ = some (.int .i64 md) := by rw [World.cell?_drew]; exact cd3
    generalize w1.drew = wd at *
    clear cp cd0 cd1 cd2 cd3 hHeld R1 g1 oq u01
    by_cases h3 : dd = 3
    · subst h3
      have hRe : a.committed n = (RA, RC) := by rw [HR.out.1]; simp [CaS.does14]
      have hcl := ca_ccommit H1.out.1.1.ca H1.out.1.1.gd.fit.w1 (by have h1 := H1.out.1.1.gd.fit.dO; have h2 := H1.out.1.1.ca.jg.len; omega)
      rw [hRe] at hcl
      have HO := Lib.hid hcl
      clear hcl hRe
      go_wp2_with fail
      refine HO.out.mono ?_
      rintro e w5 ⟨rfl, own5, hca5, d5⟩
      clear e0 e1 e2 e3 HO
      have R5 := H1.out.1.1.did hca5 HR.out.2 d5
      have g5 := did_zero d5 H1.out.2.1 H1.out.2.2
      have c50 := cell_of_block g5.1 0
      have c53 := cell_of_block g5.1 3
      have H5 := Lib.hid (And.intro R5 (And.intro g5 (H1.out.1.2.trans R5.2)))
      simp only [List.getElem?_toArray, List.getElem?_cons_zero, List.getElem?_cons_succ] at c50 c53
      clear hca5 d5 R5 g5
      have HCm := Lib.hid (past_commit H5.out.1.1.ps (by omega : M ≤ 100000) hM1)
      by_cases hc : RC = 0
      · subst hc
        go_wp2_with fail
        refine HCm.out.mono ?_
        rintro e w6 ⟨rfl, vo6, xs6, hp6, hu6⟩
        have R6 := H5.out.1.1.past hp6 hu6
        have H6 := Lib.hid (And.intro R6 (H5.out.2.2.trans R6.2))
        clear hp6 hu6 R6 HCm c50 c53
        go_wp2
        go_ret2
        exact ⟨_, _, rfl, _, _, _, _, H6.out.1.1.mono (by omega) (by omega), H6.out.2⟩
      · have q0 : (RC == 0) = false := by simpa using hc
        have HK := Lib.hid hc
        clear hc
        go_wp2
        go_ret2
        exact ⟨_, _, rfl, _, _, _, _, H5.out.1.1.mono (by omega) (by omega), H5.out.2.2⟩
    by_cases h4 : dd = 4
    · subst h4
      have hRe : a.ckpt n = (RA, RC) := by rw [HR.out.1]; simp [CaS.does14]
      have hcl := ca_ckpt H1.out.1.1.ca H1.out.1.1.gd.fit.sm (by have h1 := H1.out.1.1.gd.fit.dO; omega)
      rw [hRe] at hcl
      have HO := Lib.hid hcl
      clear hcl hRe
      go_wp2_with fail
      refine HO.out.mono ?_
      rintro e w5 ⟨rfl, own5, hca5, d5⟩
      clear e0 e1 e2 e3 HO
      have R5 := H1.out.1.1.did hca5 HR.out.2 d5
      have g5 := did_zero d5 H1.out.2.1 H1.out.2.2
      have c50 := cell_of_block g5.1 0
      have c53 := cell_of_block g5.1 3
      have H5 := Lib.hid (And.intro R5 (And.intro g5 (H1.out.1.2.trans R5.2)))
      simp only [List.getElem?_toArray, List.getElem?_cons_zero, List.getElem?_cons_succ] at c50 c53
      clear hca5 d5 R5 g5
      have HCm := Lib.hid (past_commit H5.out.1.1.ps (by omega : M ≤ 100000) hM1)
      by_cases hc : RC = 0
      · subst hc
        go_wp2_with fail
        refine HCm.out.mono ?_
        rintro e w6 ⟨rfl, vo6, xs6, hp6, hu6⟩
        have R6 := H5.out.1.1.past hp6 hu6
        have H6 := Lib.hid (And.intro R6 (H5.out.2.2.trans R6.2))
        clear hp6 hu6 R6 HCm c50 c53
        go_wp2
        go_ret2
        exact ⟨_, _, rfl, _, _, _, _, H6.out.1.1.mono (by omega) (by omega), H6.out.2⟩
      · have q0 : (RC == 0) = false := by simpa using hc
        have HK := Lib.hid hc
        clear hc
        go_wp2
        go_ret2
        exact ⟨_, _, rfl, _, _, _, _, H5.out.1.1.mono (by omega) (by omega), H5.out.2.2⟩
    by_cases h6 : dd = 6
    · subst h6
      have hRe : a.back14 n blk = (RA, RC) := by rw [HR.out.1]; simp [CaS.does14]
      have hcl := ca_back14 H1.out.1.1.ca H1.out.1.1.gd (by omega) blk
      rw [hRe] at hcl
      have HO := Lib.hid hcl
      clear hcl hRe
      go_wp2_with fail
      refine HO.out.mono ?_
      rintro e w5 ⟨rfl, own5, hca5, d5⟩
      clear e0 e1 e2 e3 HO
      have R5 := H1.out.1.1.did hca5 HR.out.2 d5
      have g5 := did_zero d5 H1.out.2.1 H1.out.2.2
      have c50 := cell_of_block g5.1 0
      have c53 := cell_of_block g5.1 3
      have H5 := Lib.hid (And.intro R5 (And.intro g5 (H1.out.1.2.trans R5.2)))
      simp only [List.getElem?_toArray, List.getElem?_cons_zero, List.getElem?_cons_succ] at c50 c53
      clear hca5 d5 R5 g5
      by_cases hc : RC = 0
      · subst hc
        go_wp2
        go_ret2
        exact ⟨_, _, rfl, _, _, _, _, H5.out.1.1.mono (by omega) (by omega), H5.out.2.2⟩
      · have q0 : (RC == 0) = false := by simpa using hc
        have HK := Lib.hid hc
        clear hc
        go_wp2
        go_ret2
        exact ⟨_, _, rfl, _, _, _, _, H5.out.1.1.mono (by omega) (by omega), H5.out.2.2⟩
    by_cases h5 : dd = 5
    · subst h5
      have hRe : ((CaS.evicts n (nv % 4) 0 a).1, (CaS.evicts n (nv % 4) 0 a).2.2) = (RA, RC) := by rw [HR.out.1]; simp [CaS.does14]
      have hmm : nv % 4 * (n.pa + 1) ≤ 3 * (n.pa + 1) := Nat.mul_le_mul_right _ (by omega)
      have hev := ca_evict H1.out.1.1.ca H1.out.1.1.gd.fit (nv % 4) (by omega) (by omega)
      have hrem : Int.tmod (nv : Int) 4 = ((nv % 4 : Nat) : Int) := by rw [Int.tmod_eq_emod_of_nonneg (by omega)]; simp
      rw [(Prod.mk.inj hRe).1, (Prod.mk.inj hRe).2, ← hrem] at hev
      obtain ⟨gg, hgg⟩ : ∃ gg : Int, gg = ((CaS.evicts n (nv % 4) 0 a).2.1 : Int) := ⟨_, rfl⟩
      rw [← hgg] at hev
      have HO := Lib.hid hev
      clear hev hrem hgg hRe hmm
      go_wp2_with fail
      refine HO.out.mono ?_
      rintro e w5 ⟨rfl, own5, hca5, d5⟩
      clear e0 e1 e2 e3 HO
      have R5 := H1.out.1.1.did hca5 HR.out.2 d5
      have g5 := did_zero d5 H1.out.2.1 H1.out.2.2
      have c50 := cell_of_block g5.1 0
      have c53 := cell_of_block g5.1 3
      have H5 := Lib.hid (And.intro R5 (And.intro g5 (H1.out.1.2.trans R5.2)))
      simp only [List.getElem?_toArray, List.getElem?_cons_zero, List.getElem?_cons_succ] at c50 c53
      clear hca5 d5 R5 g5
      by_cases hc : RC = 0
      · subst hc
        go_wp2
        go_ret2
        exact ⟨_, _, rfl, _, _, _, _, H5.out.1.1.mono (by omega) (by omega), H5.out.2.2⟩
      · have q0 : (RC == 0) = false := by simpa using hc
        have HK := Lib.hid hc
        clear hc
        go_wp2
        go_ret2
        exact ⟨_, _, rfl, _, _, _, _, H5.out.1.1.mono (by omega) (by omega), H5.out.2.2⟩
    by_cases h7 : dd = 7
    · subst h7
      have hRe : (a.plan14 md nv, (0 : Int)) = (RA, RC) := by rw [HR.out.1]; simp [CaS.does14]
      have HRA := Lib.hid (Prod.mk.inj hRe)
      have HO := Lib.hid (ca_devices H1.out.1.1.ca)
      have hrem : Hid ((nv : Int) % 2 = ((nv % 2 : Nat) : Int)) := Lib.hid (by omega)
      clear hRe
      go_wp2_with fail
      refine HO.out.mono ?_
      rintro e w4 ⟨rfl, own4, h4, d4⟩
      have g4 := did_zero d4 H1.out.2.1 H1.out.2.2
      have k2 := cell_of_block g4.1 2
      have k3 := cell_of_block g4.1 3
      simp only [List.getElem?_toArray, List.getElem?_cons_zero, List.getElem?_cons_succ] at k2 k3
      obtain ⟨xn, hxn⟩ : ∃ xn : Int, xn = (nv : Int) % 2 := ⟨_, rfl⟩
      obtain ⟨w5', hw5⟩ : ∃ w5', w5' = w4.alloc (.cells #[.int .i64 xn] 3) := ⟨_, rfl⟩
      have hu5 : Upd (fun _ => False) w4 w5' := by rw [hw5]; exact (Upd.refl _ w4).alloc _
      have hrd : Rd w5' 1 (.slice (some ⟨w4.heap.size, 0, none⟩) 1 1) 1 (ints [xn]) := by rw [hw5]; exact Rd.fresh w4 (ints [xn]) 3 1 rfl (by unfold maxLen; omega)
      have hx2 : ∀ x ∈ [xn], 0 ≤ x ∧ x ≤ 2 := fun x hx => by rw [List.mem_singleton.1 hx, hxn, hrem.out]; omega
      have hp := H1.out.1.1.gd.pd
      have hb := H1.out.1.1.gd.pb
      have hs := ca_ssd_plan (h4.new hu5) (vk := .slice (some ⟨w4.heap.size, 0, none⟩) 1 1) (l := [xn]) hrd hx2 (by show a.dP.length + 1 ≤ 65536; omega)
      have ht := ca_back_plan (h4.new hu5) (vk := .slice (some ⟨w4.heap.size, 0, none⟩) 1 1) (l := [xn]) hrd hx2 (by show a.bP.length + 1 ≤ 65536; omega)
      have hxr : xn = ((nv % 2 : Nat) : Int) := by rw [hxn, hrem.out]
      have HX := Lib.hid (And.intro hxr (And.intro hw5 (d4.trans (h4.didNew hu5))))
      have HP := Lib.hid (And.intro hs ht)
      rw [hxn] at hw5
      have HW5 := Lib.hid hw5
      clear hs ht hrd hx2 hu5 hw5 h4 d4 hp hb e0 e1 e2 e3 HO hxn hrem hxr
      by_cases hmd : md = 0
      case' pos =>
        have q1 : (md != 0) = false := by simp [hmd]
        have hr : a.plan14 md nv = { a with dP := a.dP ++ [xn] } := by unfold CaS.plan14; rw [if_pos hmd, HX.out.1]
        have HC := Lib.hid HP.out.1
      case' neg =>
        have q1 : (md != 0) = true := by simpa using hmd
        have hr : a.plan14 md nv = { a with bP := a.bP ++ [xn] } := by unfold CaS.plan14; rw [if_neg hmd, HX.out.1]
        have HC := Lib.hid HP.out.2
      all_goals
        have HM := Lib.hid hmd
        rw [HRA.out.1] at hr
        have Hr := Lib.hid hr
        clear hmd HP hr
        go_wp2_with fail
        rw [← HW5.out]
        refine HC.out.mono ?_
        rintro e w5 ⟨rfl, own5, hca5', d5'⟩
        have hca5 : CaAt own5 w5 c n p RA := by rw [Hr.out]; exact hca5'
        have d5 := HX.out.2.2.trans d5'
        clear hca5' d5' k2 k3 g4 q1
        have R5 := H1.out.1.1.did hca5 HR.out.2 d5
        have g5 := did_zero d5 H1.out.2.1 H1.out.2.2
        have c50 := cell_of_block g5.1 0
        have c53 := cell_of_block g5.1 3
        have H5 := Lib.hid (And.intro R5 (And.intro g5 (H1.out.1.2.trans R5.2)))
        simp only [List.getElem?_toArray, List.getElem?_cons_zero, List.getElem?_cons_succ] at c50 c53
        clear hca5 d5 R5 g5
        go_wp2
        go_ret2
        exact ⟨_, _, rfl, _, _, _, _, H5.out.1.1.mono (by omega) (by omega), H5.out.2.2⟩
    by_cases h0 : dd = 0
    · subst h0
      have hRe : a.wrote n blk (fillB nv) md = (RA, RC) := by rw [HR.out.1]; simp [CaS.does14]
      obtain ⟨y, hy⟩ : ∃ y, y = fillB nv := ⟨_, rfl⟩
      have hyl : y.length = 64 := by rw [hy]; exact fillB_len nv
      rw [← hy] at hRe
      have HF := Lib.hid (And.intro hy (And.intro hRe (fill_any nv hnv)))
      clear hy hRe
      go_wp2_with fail
      refine wp_region_held_drew (S := fun W => W.cell? ⟨q, 1, none⟩ = some (.int .i64 blk) ∧ W.cell? ⟨q, 2, none⟩ = some (.int .i64 (nv : Int)) ∧ W.cell? ⟨q, 3, none⟩ = some (.int .i64 md)) (by kernel_rfl) (⟨by rw [World.cell?_drew]; exact e1, by rw [World.cell?_drew]; exact e2, by rw [World.cell?_drew]; exact e3⟩) (fun hHeld => ?_)
      refine Wl.i [0, 1, 2, 3, 4, 6, 7] ?_; iterate 7 refine Wl.t hHeld ?_
      refine Wl.o ?_
      refine Wl.r 5 (fun K hK => ?_)
      go_simp
      refine (HF.out.2.2 wd.drew).mono ?_
      rintro e w4 ⟨rfl, hb4⟩
      rw [← HF.out.1]
      have u4 : Upd (fun _ => False) wd w4 := ((Upd.refl _ wd).drew).trans (Upd.of_below hb4)
      have hcl := ca_write (H1.out.1.1.ca.new u4) H1.out.1.1.gd.fit (by omega) H1.out.1.1.gd.tie blk y hyl md
      rw [HF.out.2.1] at hcl
      have HO := Lib.hid hcl
      have k1 := u4.cellv e1 (fun h => h)
      have k2 := u4.cellv e2 (fun h => h)
      have k3 := u4.cellv e3 (fun h => h)
      have HU := Lib.hid u4
      refine hK.out _ _ ⟨k1, k2, k3⟩ (fun _ => ?_)
      clear hK K hHeld u4 hcl hb4 e0 e1 e2 e3 k1 k2 k3
      refine Wl.r 8 (fun K hK => ?_)
      go_simp
      refine HO.out.mono ?_
      rintro e w5 ⟨rfl, own5, hca5, d5'⟩
      have d5 := (H1.out.1.1.ca.didNew HU.out).trans d5'
      clear HO d5'
      have R5 := H1.out.1.1.did hca5 HR.out.2 d5
      have g5 := did_zero d5 H1.out.2.1 H1.out.2.2
      have c50 := cell_of_block g5.1 0
      have c53 := cell_of_block g5.1 3
      have H5 := Lib.hid (And.intro R5 (And.intro g5 (H1.out.1.2.trans R5.2)))
      simp only [List.getElem?_toArray, List.getElem?_cons_zero, List.getElem?_cons_succ] at c50 c53
      clear hca5 d5 R5 g5
      have k1 : w5.cell? ⟨q, 1, none⟩ = some (.int .i64 blk) := by have := cell_of_block H5.out.2.1.1 1; simpa using this
      have k2 : w5.cell? ⟨q, 2, none⟩ = some (.int .i64 (nv : Int)) := by have := cell_of_block H5.out.2.1.1 2; simpa using this
      refine hK.out _ _ ⟨k1, k2, c53⟩ (fun hHeld => ?_)
      clear hK K k1 k2
      refine Wl.i [9] (Wl.t hHeld (Wl.o ?_))
      refine Wl.d ?_
      clear hHeld
      first
      | obtain ⟨i, hi, hib⟩ : ∃ i : Nat, blk = (i : Int) ∧ i < n.bl := by
          have := HT.out.1 (by first | rfl | trivial)
          exact ⟨blk.toNat, by omega, by omega⟩
        subst hi
        have c51 : w5.cell? ⟨q, 1, none⟩ = some (.int .i64 (i : Int)) := by have := cell_of_block H5.out.2.1.1 1; simpa using this
        have c52 : w5.cell? ⟨q, 2, none⟩ = some (.int .i64 (nv : Int)) := by have := cell_of_block H5.out.2.1.1 2; simpa using this
        by_cases hc : RC = 0
        · subst hc
          have HPw := Lib.hid (past_write H5.out.1.1.ps (by omega : M ≤ 100000) hib (nv : Int) (by omega))
          go_wp2_with fail
          refine HPw.out.mono ?_
          rintro e w6 ⟨rfl, vo6, xs6, hp6, hu6⟩
          have R6 := H5.out.1.1.past hp6 hu6
          have c60 : w6.cell? ⟨q, 0, none⟩ = some (.int .i64 0) := by
            have l5 := lt_of_block H5.out.2.1.1
            refine hu6.cellv c50 (fun h => ?_)
            rcases h with h | h
            · have := HQ.out; omega
            · have h : w5.heap.size ≤ q := h
              omega
          have H6 := Lib.hid (And.intro R6 (H5.out.2.2.trans R6.2))
          clear hp6 hu6 R6 HPw c50 c51 c52 c53
          go_wp2
          go_ret2
          exact ⟨_, _, rfl, _, _, _, _, H6.out.1.1.mono (by omega) (by omega), H6.out.2⟩
        · have q0 : (RC == 0) = false := by simpa using hc
          have q1 : (RC != 0) = true := by simpa using hc
          have HK := Lib.hid hc
          clear hc
          have HPm := Lib.hid (past_maybe H5.out.1.1.ps (by omega : M ≤ 100000) hib (nv : Int) (by omega))
          by_cases hm0 : 0 ≤ md
          · by_cases hm2 : md ≤ 2
            · go_wp2_with fail
              refine HPm.out.mono ?_
              rintro e w6 ⟨rfl, vo6, xs6, hp6, hu6⟩
              have R6 := H5.out.1.1.past hp6 hu6
              have H6 := Lib.hid (And.intro R6 (H5.out.2.2.trans R6.2))
              clear hp6 hu6 R6 HPm c50 c51 c52 c53
              go_wp2
              go_ret2
              exact ⟨_, _, rfl, _, _, _, _, H6.out.1.1.mono (by omega) (by omega), H6.out.2⟩
            · clear HPm
              go_wp2
              go_ret2
              exact ⟨_, _, rfl, _, _, _, _, H5.out.1.1.mono (by omega) (by omega), H5.out.2.2⟩
          · clear HPm
            go_wp2
            go_ret2
            exact ⟨_, _, rfl, _, _, _, _, H5.out.1.1.mono (by omega) (by omega), H5.out.2.2⟩
      | by_cases hc : RC = 0
        · subst hc
          go_wp2
          go_ret2
          exact ⟨_, _, rfl, _, _, _, _, H5.out.1.1.mono (by omega) (by omega), H5.out.2.2⟩
        · have q0 : (RC == 0) = false := by simpa using hc
          have HK := Lib.hid hc
          clear hc
          go_wp2
          go_ret2
          exact ⟨_, _, rfl, _, _, _, _, H5.out.1.1.mono (by omega) (by omega), H5.out.2.2⟩
    by_cases h1 : dd = 1
    · subst h1
      have hRe : a.gone n blk = (RA, RC) := by rw [HR.out.1]; simp [CaS.does14]
      have hfz := frozen_of_block H1.out.2.1 2
      obtain ⟨w2, hw2⟩ : ∃ w2, w2 = wd.setCell ⟨q, 2, none⟩ (.int .i64 0) := ⟨_, rfl⟩
      have hus : Upd (fun j => j = q) wd w2 := by rw [hw2]; exact upd_setCell wd q 2 (.int .i64 0)
      have gq : w2.heap[q]? = some (.cells #[.int .i64 1, .int .i64 blk, .int .i64 0, .int .i64 md] 84 (0, 0)) := by rw [hw2]; have := heap_setCell_same H1.out.2.1 2 (.int .i64 0); simpa using this
      have hqn : ∀ j, j = q → own j = 0 ∧ j ≠ 0 ∧ j ≠ 1 := fun j e => by
        subst e
        refine ⟨H1.out.2.2, fun e => ?_, fun e => ?_⟩
        · have := H.out.1.ca.nib.lt; have := HQ.out; omega
        · have := H.out.1.ca.tur.lt; have := HQ.out; omega
      have R2 : Run14 own w2 c n p a N (fun j => B j ∧ j < w.heap.size) pp M (.slice ao n.bl cap) xs := ⟨H1.out.1.1.ca.nobody hus hqn, H1.out.1.1.gd, H1.out.1.1.ps.keep hus (fun j hj e => by have := HQ.out; omega), fun j hj hlt => by
        have hs := hus.size
        exact H1.out.1.1.ob j hj (by have := lt_of_block H1.out.2.1; have := HQ.out; omega)⟩
      have D2 : Did14 own w B own w2 (fun j => B j ∧ j < w.heap.size) := ⟨H1.out.1.2.1.new hus (fun i hi e => by have := HQ.out; omega), H1.out.1.2.2.1, H1.out.1.2.2.2⟩
      have H2 := Lib.hid (And.intro R2 (And.intro D2 gq))
      have k1 := cell_of_block gq 1
      simp only [List.getElem?_toArray, List.getElem?_cons_zero, List.getElem?_cons_succ] at k1
      have hcl := ca_discard R2.ca R2.gd.fit (by omega) R2.gd.tie blk
      rw [hRe] at hcl
      have HO := Lib.hid hcl
      rw [hw2] at k1
      have HW2 := Lib.hid hw2
      clear hcl hRe hus gq hqn R2 D2 hw2
      go_wp2_with fail
      rw [← HW2.out]
      refine HO.out.mono ?_
      rintro e w5 ⟨rfl, own5, hca5, d5⟩
      clear e0 e1 e2 e3 HO
      have R5 := H2.out.1.did hca5 HR.out.2 d5
      have g5 := did_zero d5 H2.out.2.2 H1.out.2.2
      have c50 := cell_of_block g5.1 0
      have c53 := cell_of_block g5.1 3
      have H5 := Lib.hid (And.intro R5 (And.intro g5 (H2.out.2.1.trans R5.2)))
      simp only [List.getElem?_toArray, List.getElem?_cons_zero, List.getElem?_cons_succ] at c50 c53
      clear hca5 d5 R5 g5 k1 hfz
      first
      | obtain ⟨i, hi, hib⟩ : ∃ i : Nat, blk = (i : Int) ∧ i < n.bl := by
          have := HT.out.1 (by first | rfl | trivial)
          exact ⟨blk.toNat, by omega, by omega⟩
        subst hi
        have c51 : w5.cell? ⟨q, 1, none⟩ = some (.int .i64 (i : Int)) := by have := cell_of_block H5.out.2.1.1 1; simpa using this
        have c52 : w5.cell? ⟨q, 2, none⟩ = some (.int .i64 0) := by have := cell_of_block H5.out.2.1.1 2; simpa using this
        by_cases hc : RC = 0
        · subst hc
          have HPw := Lib.hid (past_write H5.out.1.1.ps (by omega : M ≤ 100000) hib 0 (by omega))
          go_wp2_with fail
          refine HPw.out.mono ?_
          rintro e w6 ⟨rfl, vo6, xs6, hp6, hu6⟩
          have R6 := H5.out.1.1.past hp6 hu6
          have c60 : w6.cell? ⟨q, 0, none⟩ = some (.int .i64 1) := by
            have l5 := lt_of_block H5.out.2.1.1
            refine hu6.cellv c50 (fun h => ?_)
            rcases h with h | h
            · have := HQ.out; omega
            · have h : w5.heap.size ≤ q := h
              omega
          have H6 := Lib.hid (And.intro R6 (H5.out.2.2.trans R6.2))
          clear hp6 hu6 R6 HPw c50 c51 c52 c53
          go_wp2
          go_ret2
          exact ⟨_, _, rfl, _, _, _, _, H6.out.1.1.mono (by omega) (by omega), H6.out.2⟩
        · have q0 : (RC == 0) = false := by simpa using hc
          have q1 : (RC != 0) = true := by simpa using hc
          have HK := Lib.hid hc
          clear hc
          have HPm := Lib.hid (past_maybe H5.out.1.1.ps (by omega : M ≤ 100000) hib 0 (by omega))
          by_cases hm0 : 0 ≤ md
          · by_cases hm2 : md ≤ 2
            · go_wp2_with fail
              refine HPm.out.mono ?_
              rintro e w6 ⟨rfl, vo6, xs6, hp6, hu6⟩
              have R6 := H5.out.1.1.past hp6 hu6
              have H6 := Lib.hid (And.intro R6 (H5.out.2.2.trans R6.2))
              clear hp6 hu6 R6 HPm c50 c51 c52 c53
              go_wp2
              go_ret2
              exact ⟨_, _, rfl, _, _, _, _, H6.out.1.1.mono (by omega) (by omega), H6.out.2⟩
            · clear HPm
              go_wp2
              go_ret2
              exact ⟨_, _, rfl, _, _, _, _, H5.out.1.1.mono (by omega) (by omega), H5.out.2.2⟩
          · clear HPm
            go_wp2
            go_ret2
            exact ⟨_, _, rfl, _, _, _, _, H5.out.1.1.mono (by omega) (by omega), H5.out.2.2⟩
      | by_cases hc : RC = 0
        · subst hc
          go_wp2
          go_ret2
          exact ⟨_, _, rfl, _, _, _, _, H5.out.1.1.mono (by omega) (by omega), H5.out.2.2⟩
        · have q0 : (RC == 0) = false := by simpa using hc
          have HK := Lib.hid hc
          clear hc
          go_wp2
          go_ret2
          exact ⟨_, _, rfl, _, _, _, _, H5.out.1.1.mono (by omega) (by omega), H5.out.2.2⟩
    by_cases h2 : dd = 2
    · subst h2
      have hRe : ((a.readB n blk).1, (a.readB n blk).2.2) = (RA, RC) := by rw [HR.out.1]; simp [CaS.does14]
      have hcl := ca_read H1.out.1.1.ca blk
      rw [(Prod.mk.inj hRe).1, (Prod.mk.inj hRe).2] at hcl
      have HO := Lib.hid hcl
      clear hcl hRe
      go_wp2_with fail
      refine HO.out.mono ?_
      rintro e w4 ⟨y, cd, -, hcd, hyl, rfl, own5, hca4, d4⟩
      have hcd' := hcd.symm
      subst hcd'
      clear hcd
      clear e0 e1 e2 e3 HO
      obtain ⟨w5, hw5⟩ : ∃ w5, w5 = w4.alloc (.cells (bkC y).toArray 54) := ⟨_, rfl⟩
      have hu5 : Upd (fun _ => False) w4 w5 := by rw [hw5]; exact (Upd.refl _ w4).alloc _
      have g6 : w5.heap[w4.heap.size]? = some (.cells (bkC y).toArray 54 (0, 0)) := by rw [hw5]; exact heap_alloc_last w4 _ rfl
      have r6 := range_of_block g6
      have hsi := sizeBk y hyl
      have hca5 := hca4.new hu5
      have d5 := d4.trans (hca4.didNew hu5)
      have HW5 := Lib.hid hw5
      clear hca4 d4 hu5 g6 hw5
      have R5 := H1.out.1.1.did hca5 HR.out.2 d5
      have g5 := did_zero d5 H1.out.2.1 H1.out.2.2
      have c50 := cell_of_block g5.1 0
      have c53 := cell_of_block g5.1 3
      have H5 := Lib.hid (And.intro R5 (And.intro g5 (H1.out.1.2.trans R5.2)))
      simp only [List.getElem?_toArray, List.getElem?_cons_zero, List.getElem?_cons_succ] at c50 c53
      clear hca5 d5 R5 g5
      have k1 : w5.cell? ⟨q, 1, none⟩ = some (.int .i64 blk) := by have := cell_of_block H5.out.2.1.1 1; simpa using this
      obtain ⟨bb, hbb⟩ : ∃ bb, bb = w4.heap.size := ⟨_, rfl⟩
      rw [← hbb] at r6
      have HB := Lib.hid hbb
      clear c50 c53 hbb
      go_wp2_with (first
        | (refine wpList_store_new rfl _ _ _ rfl _ _ (bkC y) rfl rfl (by rw [bkC_len, hyl]; rfl) hsi (bkC_one y) ?_)
        | fail)
      rw [← HW5.out, ← HB.out]
      refine wp_region_held_drew (S := fun W => W.cell? ⟨q, 1, none⟩ = some (.int .i64 blk) ∧ W.rangeAt bb 0 (bkC y)) (by kernel_rfl) (⟨by rw [World.cell?_drew]; exact k1, by rw [World.rangeAt_drew]; exact r6⟩) (fun hHeld => ?_)
      refine Wl.i [0, 1] ?_; iterate 2 refine Wl.t hHeld ?_
      refine Wl.o ?_
      by_cases hc : RC = 0
      case' neg =>
        refine wpAnyH_take (i := 2) (v := .bool true) rfl (by kernel_rfl) (by kernel_rfl) (by kernel_rfl) (fun _ _ _ h => h) (Or.inl ⟨by rfl, ?_⟩) hHeld ?_
        · intro W hSw
          have q1 : (RC != 0) = true := by simpa using hc
          go_simp
        simp only [List.getElem_toArray, List.getElem_cons_succ, List.getElem_cons_zero, Act.put, List.setIfInBounds_toArray, List.set_cons_zero, List.set_cons_succ]
        refine Wl.i [3, 4, 5, 6, 7, 8, 9, 10, 11, 12, 13, 14] ?_; iterate 12 refine Wl.t hHeld ?_
        refine Wl.o ?_
        refine Wl.r 15 (fun K hK => ?_)
        go_simp
        refine hK.out _ _ hHeld (fun _ => ?_)
        clear hK K
        refine Wl.r 16 (fun K hK => ?_)
        go_simp
        refine hK.out _ _ hHeld (fun _ => ?_)
        clear hK K
        refine Wl.d ?_
        have R6 := Lib.hid (H5.out.1.1.new ((Upd.refl (fun _ => False) w5).drew))
        clear hHeld
        go_wp2
        go_ret2
        exact ⟨_, _, rfl, _, _, _, _, R6.out.1.mono (by omega) (by omega), H5.out.2.2.trans R6.out.2⟩
      subst hc
      refine wpAnyH_take (i := 2) (v := .bool false) rfl (by kernel_rfl) (by kernel_rfl) (by kernel_rfl) (fun _ _ _ h => h) (Or.inl ⟨by rfl, ?_⟩) hHeld ?_
      · intro W hSw
        go_simp
      simp only [List.getElem_toArray, List.getElem_cons_succ, List.getElem_cons_zero, Act.put, List.setIfInBounds_toArray, List.set_cons_zero, List.set_cons_succ]
      refine Wl.i [3, 4, 5] ?_; iterate 3 refine Wl.t hHeld ?_
      refine Wl.o ?_
      first
      | obtain ⟨i, hi, hib⟩ : ∃ i : Nat, blk = (i : Int) ∧ i < n.bl := by
          have := HT.out.1 (by first | rfl | trivial)
          exact ⟨blk.toNat, by omega, by omega⟩
        subst hi
        refine Wl.l 6 (fun w h => h.2) Tryz.underlying54 hsi hHeld ?_
        refine Wl.i [7, 8, 9] ?_; iterate 3 refine Wl.t hHeld ?_
        refine Wl.o ?_
        refine Wl.r 10 (fun K hK => ?_)
        go_simp
        have R6 := H5.out.1.1.new ((Upd.refl _ w5).drew)
        refine (past_now R6.1.ps (by omega) hib).mono ?_
        rintro e w6 ⟨x, hx, rfl, hu6⟩
        obtain ⟨xn, rfl⟩ := Int.eq_ofNat_of_zero_le hx.1
        have R7 := R6.1.new hu6
        have hH6 := And.intro (hu6.cellv hHeld.1 (fun h => h)) (hu6.range hHeld.2 (fun h => h))
        refine hK.out _ _ hH6 (fun _ => ?_)
        clear hK K
        refine Wl.r 11 (fun K hK => ?_)
        go_simp
        refine (fill_any xn (by have := hx.2; omega) w6).mono ?_
        rintro e w7 ⟨rfl, hb7⟩
        obtain ⟨z, hz⟩ : ∃ z, z = fillB xn := ⟨_, rfl⟩
        have hzl : z.length = 64 := by rw [hz]; exact fillB_len xn
        rw [← hz]
        have R8 := R7.1.new (Upd.of_below hb7)
        have hH7 := And.intro ((Upd.of_below (S := fun _ => False) hb7).cellv hH6.1 (fun h => h)) ((Upd.of_below (S := fun _ => False) hb7).range hH6.2 (fun h => h))
        refine hK.out _ _ hH7 (fun _ => ?_)
        have D8 := ((H5.out.2.2.trans R6.2).trans R7.2).trans R8.2
        have H8 := Lib.hid (And.intro R8.1 D8)
        clear hK K hz R6 R7 R8 D8 hH6 hHeld
        obtain ⟨bq, hbq⟩ : ∃ bq, bq = (y == z) := ⟨_, rfl⟩
        have heq : ∀ W : World, (binOp .eql 54 (.agg (bkC y).toArray) (.agg (bkC z).toArray)).run Tryz.prog W = .ok (.bool bq) W := by
          intro W; rw [hbq]; exact run_eql_bk y z hyl hzl W
        clear hbq
        refine Wl.i [12] ?_; refine Wl.t hH7 ?_
        refine Wl.o ?_
        refine Wl.i [13, 14] ?_; iterate 2 refine Wl.t hH7 ?_
        refine Wl.o ?_
        refine Wl.r 15 (fun K hK => ?_)
        go_simp
        refine hK.out _ _ hH7 (fun _ => ?_)
        clear hK K
        refine Wl.r 16 (fun K hK => ?_)
        go_simp
        refine hK.out _ _ hH7 (fun _ => ?_)
        clear hK K
        refine Wl.d ?_
        clear hH7
        go_wp2
        go_ret2
        exact ⟨_, _, rfl, _, _, _, _, H8.out.1.mono (by omega) (by omega), H8.out.2⟩
      | refine Wl.i [6, 7, 8, 9, 10, 11, 12, 13, 14] ?_; iterate 9 refine Wl.t hHeld ?_
        refine Wl.o ?_
        refine Wl.r 15 (fun K hK => ?_)
        go_simp
        refine hK.out _ _ hHeld (fun _ => ?_)
        clear hK K
        refine Wl.r 16 (fun K hK => ?_)
        go_simp
        refine hK.out _ _ hHeld (fun _ => ?_)
        clear hK K
        refine Wl.d ?_
        have R6 := Lib.hid (H5.out.1.1.new ((Upd.refl (fun _ => False) w5).drew))
        clear hHeld
        go_wp2
        go_ret2
        exact ⟨_, _, rfl, _, _, _, _, R6.out.1.mono (by omega) (by omega), H5.out.2.2.trans R6.out.2⟩
    have n0 : (dd == 0) = false := by simp; omega
    have n1 : (dd == 1) = false := by simp; omega
    have n2 : (dd == 2) = false := by simp; omega
    have n3 : (dd == 3) = false := by simp; omega
    have n4 : (dd == 4) = false := by simp; omega
    have n5 : (dd == 5) = false := by simp; omega
    have n6 : (dd == 6) = false := by simp; omega
    have n7 : (dd == 7) = false := by simp; omega
    have hRe : (a, (0 : Int)) = (RA, RC) := by rw [HR.out.1]; simp [CaS.does14, h0, h1, h2, h3, h4, h5, h6, h7]
    have HE := Lib.hid (Prod.mk.inj hRe).1
    clear h0 h1 h2 h3 h4 h5 h6 h7 hRe
    go_wp2
    go_ret2
    exact ⟨_, _, rfl, _, _, _, _, by rw [← HE.out]; exact H1.out.1.1.mono (by omega) (by omega), H1.out.1.2⟩
end
end Go.Proofs.YtfhfbpmlnjdfoaaGreatDoor
namespace Go.Proofs.YtfhfbpmlnjdfoaaGreatDoor
open Go Go.RowKit Go.Maps
theorem litInj {x y : Int} (e : Lit.int .i64 x = Lit.int .i64 y) : x = y := by injection e
section
variable {α : Type}
open Classical in
noncomputable def decR (enc : α → Value) (v : Value) : Option (DataW α × List MemPlace) := if h : ∃ e, v = enc e then some (.held (Classical.choose h), []) else none
variable {enc : α → Value}
theorem decR_inv {v : Value} {y : DataW α × List MemPlace} (h : decR enc v = some y) : ∃ e, v = enc e ∧ y = (.held e, []) := by
  unfold decR at h
  split at h
  · rename_i hx
    cases h
    exact ⟨_, Classical.choose_spec hx, rfl⟩
  · cases h
def ReadsG (D : DataW α) (f : Int → Option α) : Prop := ∀ s : Int, Maps.has D (.int .i64 s) = (f s).isSome ∧ ∀ c, f s = some c → ∀ z, D.atKey (.int .i64 s) z = .held c
variable (enc)
def MapG (w : World) (mb N : Nat) (f : Int → Option α) : Prop := ∃ D : DataW α, w.ownsMap Tryz.prog 3 (decR enc) mb N D ∧ ReadsG D f
def RngG (w : World) (mb r N : Nat) (f : Int → Option α) (left : Int → Bool) (cnt : Nat) : Prop :=
  ∃ (D : DataW α) (lf : Lit → Bool), w.ranges Tryz.prog 3 (decR enc) mb r N D lf cnt ∧ ReadsG D f ∧ ∀ s : Int, lf (.int .i64 s) = left s
variable {enc}
variable {w : World} {mb N : Nat} {f : Int → Option α}
theorem MapG.keep {w' : World} (h : MapG enc w mb N f) {S : Nat → Prop} (hu : Upd S w w') (hs : ¬ S mb) : MapG enc w' mb N f := by
  obtain ⟨D, ⟨es, clock, hb, r⟩, hf⟩ := h
  exact ⟨D, ⟨es, clock, (hu.block _ (lt_of_block hb) hs).trans hb, r⟩, hf⟩
theorem MapG.made (w : World) : MapG enc (w.alloc (.map #[] 0)) w.heap.size 0 (fun _ => none) :=
  ⟨.map [], World.ownsMap_made w _ _ _, fun s => ⟨rfl, fun c h => by cases h⟩⟩
variable (enc) in
end
section
variable {α : Type} {enc : α → Value} {w : World} {ops : Array Oper} {rest : List Oper} {o : Oper} {a : Act} {Q : Exit → Act → World → Prop} {mb N : Nat} {f : Int → Option α}
theorem wpList_range_G (hg : o.guard = none) (m : Operand) (t : TypeId) (hop : o.op = Op.range t m) {e : TypeId} (ht : Tryz.prog.underlying t = some (.map 3 e))
    (hm : a.eval m = .map (some mb)) (h : MapG enc w mb N f)
    (hK : ∀ w', (∃ cnt, cnt ≤ N ∧ RngG enc w' mb w.heap.size N f (fun s => (f s).isSome) cnt) → Upd (fun _ => False) w w' → w'.heap.size = w.heap.size + 1 → wpList Tryz.prog ops Q rest (a.put o.dst (.pointer (some ⟨w.heap.size, 0, none⟩))) w') :
    wpList Tryz.prog ops Q (o :: rest) a w := by
  obtain ⟨D, ho, hf⟩ := h
  exact wpList_range_own w hg m t hop 3 e keyedI ht (decR enc) mb N D hm ho (fun w' h1 h2 h3 => hK w' ⟨_, ho.size_le, D, _, h1, hf, fun s => (hf s).1⟩ (Upd.of_grown h2 (fun g hg => by cases hg)) h3)
theorem wpList_next_G (hg : o.guard = none) (it : Operand) (hop : o.op = Op.next it false) {r cnt : Nat} {left : Int → Bool}
    (hit : a.eval it = .pointer (some ⟨r, 0, none⟩)) (h : RngG enc w mb r N f left cnt)
    (hDone : (∀ s, left s = false) → wpList Tryz.prog ops Q rest (a.put o.dst (.tuple #[.bool false])) w)
    (hMore : ∀ (x : Int) (c : α) (w' : World), left x = true → f x = some c → (∃ cnt', cnt' < cnt ∧ RngG enc w' mb r N f (fun z => left z && !decide (z = x)) cnt') → Upd (fun j => j = r) w w' → w'.heap.size = w.heap.size →
      (Instr.entry (.pointer (some ⟨r, 0, none⟩))).run Tryz.prog w' = .ok (.tuple #[.int .i64 x, enc c]) w' → wpList Tryz.prog ops Q rest (a.put o.dst (.tuple #[.bool true, .int .i64 x, enc c])) w') :
    wpList Tryz.prog ops Q (o :: rest) a w := by
  obtain ⟨D, lf, h, hf, hl⟩ := h
  refine wpList_next_ranges w hg it hop 3 keyedI (decR enc) (Value.int .i64) enc (fun key kl hk => ?_) (fun v y hv => ?_) mb r N D lf cnt hit h (fun _ h0 => hDone (fun s => by rw [← hl, h0])) (fun x c kl y w' cnt' hkey hlk hv hat hrg hlt hgr hsz hen => ?_)
  · obtain ⟨x, hx, -⟩ := Maps.keyOf_int_inv Tryz.underlying3 hk
    exact ⟨x, hx⟩
  · obtain ⟨e, he, -⟩ := decR_inv hv
    exact ⟨e, he⟩
  · obtain ⟨x', ex, rfl, -⟩ := Maps.keyOf_int_inv Tryz.underlying3 hkey
    cases ex
    obtain ⟨c', ec, rfl⟩ := decR_inv hv
    have hfx : f x = some c' := by
      have h1 := has_true_of_atKey hat
      rw [(hf x).1] at h1
      obtain ⟨c2, hc2⟩ := Option.isSome_iff_exists.1 h1
      have h2 := (hf x).2 c2 hc2 (.held c2)
      rw [hat] at h2
      rw [hc2, DataW.held.inj h2]
    rw [ec] at hen ⊢
    refine hMore x c' w' (by rw [← hl]; exact hlk) hfx ⟨cnt', hlt, D, _, hrg, hf, fun s => ?_⟩ (Upd.of_grown hgr (fun g hg _ => (Option.some.inj hg).symm)) hsz hen
    show (lf (.int .i64 s) && !(Lit.int .i64 s).sameKey (.int .i64 x)) = _
    rw [hl]
    by_cases hs : s = x
    · subst hs
      rw [WideAt.sameKey_self (show WideAt.IsKeyLit (.int .i64 s) from trivial), show (fun z => left z && !decide (z = s)) s = (left s && !decide (s = s)) from rfl, decide_eq_true rfl]
    · rw [sameKey_ne (fun e => hs (litInj e)), show (fun z => left z && !decide (z = x)) s = (left s && !decide (s = x)) from rfl, decide_eq_false hs]
end
end Go.Proofs.YtfhfbpmlnjdfoaaGreatDoor
namespace Go.Proofs.YtfhfbpmlnjdfoaaGreatDoor
def Stop (G : Prop) : Prop := G
theorem Stop.i {G : Prop} (h : Stop G) : G := h
end Go.Proofs.YtfhfbpmlnjdfoaaGreatDoor
