/- A journal: Commit, the whole. A cache's devices and journal, call by call. The index: Put, Drop, Clean, At. The index: Put out of range. The index: Drop, Clean, At; Get, Put, Drop, Clean of whatever block. -/
import Derived.Test.YtnadilfobmgebaaGreatDoorH11
import Derived.Test.YtnadilfobmgebaaGreatDoorH08
import Derived.Test.YtnadilfobmgebaaGreatDoorH07
namespace Go.Proofs.YtnadilfobmgebaaGreatDoor
open Go Go.RowKit
def comR (base n : Nat) (F : List Bk) (O : List (Nat × Bk)) (P : List Int) (W : List (Nat × Bk)) : DRes × List (Nat × Bk) :=
  if (flushR F O P).cd ≠ 0 ∨ W = [] then (flushR F O P, W)
  else if (comW base n (flushR F O P).F W (flushR F O P).O (flushR F O P).P).cd ≠ 0 then (comW base n (flushR F O P).F W (flushR F O P).O (flushR F O P).P, W)
  else if (flushR (comW base n (flushR F O P).F W (flushR F O P).O (flushR F O P).P).F (comW base n (flushR F O P).F W (flushR F O P).O (flushR F O P).P).O (comW base n (flushR F O P).F W (flushR F O P).O (flushR F O P).P).P).cd ≠ 0 then
    (flushR (comW base n (flushR F O P).F W (flushR F O P).O (flushR F O P).P).F (comW base n (flushR F O P).F W (flushR F O P).O (flushR F O P).P).O (comW base n (flushR F O P).F W (flushR F O P).O (flushR F O P).P).P, W)
  else (flushR (comW base n (flushR F O P).F W (flushR F O P).O (flushR F O P).P).F (comW base n (flushR F O P).F W (flushR F O P).O (flushR F O P).P).O (comW base n (flushR F O P).F W (flushR F O P).O (flushR F O P).P).P, [])
theorem flushR_len (F : List Bk) (O : List (Nat × Bk)) (P : List Int) : (flushR F O P).F.length = F.length := by
  unfold flushR; split; rfl; split; exact flushF_len _ _; rfl
def ComOut (T : Nat → Prop) (w : World) (j : Nat) (vw : Value) (d base n cov next : Nat) (r : DRes × List (Nat × Bk)) (e : Ending) (w' : World) : Prop :=
  e = .returned (.int .i64 r.1.cd) ∧ Dv T w' d r.1.F r.1.O r.1.P ∧ (∃ vw', JnAt w' j vw' d base n cov next r.2 ∧ (vw' = vw ∨ vw'.ownBlock = none)) ∧ Upd (fun k => T k ∨ k = j) w w'
set_option maxRecDepth 100000 in
set_option maxHeartbeats 1000000 in
theorem jcommit {T : Nat → Prop} {w : World} {j d base n cov next : Nat} {vw : Value} {W : List (Nat × Bk)} (h : JnAt w j vw d base n cov next W) (h1 : ∀ p ∈ W, 1 ≤ p.1)
    {F : List Bk} {O : List (Nat × Bk)} {P : List Int} (hd : Dv T w d F O P) (hn : ∀ k, w.heap.size ≤ k → T k) (hT : ∀ k, jnS j vw k → ¬ T k) (hbn : base + n ≤ F.length) (hO : O.length + W.length ≤ 65536) :
    Calls Tryz.prog 141 #[.pointer (some ⟨j, 0, none⟩)] w (ComOut T w j vw d base n cov next (comR base n F O P W)) := by
  have hmf : ∀ (fn : Fn) (first cap : Array Value) (w : World), (Instr.makeFunc fn first cap).run Tryz.prog w = .ok (.func fn first cap) w := fun _ _ _ _ => rfl
  obtain ⟨ao, c, rfl⟩ := h.ws.rd.nil_iff
  obtain ⟨w1, hw1⟩ : ∃ w1, w1 = w.alloc (.cells #[.pointer (some ⟨j, 0, none⟩)] 181) := ⟨_, rfl⟩
  have hu1 : Upd (fun _ => False) w w1 := by rw [hw1]; exact (Upd.refl _ w).alloc _
  have hg1 : w1.heap[w.heap.size]? = some (.cells #[.pointer (some ⟨j, 0, none⟩)] 181 (0, 0)) := by rw [hw1]; exact heap_alloc_last w _ rfl
  obtain ⟨m, hm⟩ : ∃ m, m = w.heap.size := ⟨_, rfl⟩
  have hmw1 : w1.heap.size = m + 1 := by rw [hw1, hm]; simp
  have hd1 : Dv (fun k => T k ∧ k ≠ m) w1 d F O P := (hd.but (by omega)).keep hu1 (fun _ _ h => h)
  have hn1 : ∀ k, w1.heap.size ≤ k → T k ∧ k ≠ m := fun k hk => ⟨hn k (by omega), by omega⟩
  have h1j := h.new hu1
  have g0 := cell_of_block hg1 0
  rw [← hm] at g0 hg1
  obtain ⟨c0, -, -, -, -, c5⟩ := h1j.c
  have HF := Lib.hid (dflushR hd1 hn1)
  have hjm : ∀ k, jnS j (.slice ao W.length c) k → ¬ (T k ∧ k ≠ m) := fun k hk ht => hT k hk ht.1
  have H := Lib.hid (And.intro h1j (And.intro h1 (And.intro hn1 (And.intro hjm (And.intro hbn (And.intro hO (And.intro hu1 (And.intro hg1 (And.intro hm (And.intro hmw1 hT))))))))))
  have c0' := c0
  rw [hw1] at c0'
  have HW1 := Lib.hid hw1
  have HM := Lib.hid hm
  clear h h1 hd hn hT hbn hO hu1 hd1 hn1 h1j hg1 hjm hw1 hm hmw1
  have g0' : w1.cell? ⟨m, 0, none⟩ = some (.pointer (some ⟨j, 0, none⟩)) := g0
  go_enter Tryz.func141, Tryz.ntmps141
  go_wp2_with fail
  rw [← HW1.out, ← HM.out]
  clear c0'
  refine HF.out.mono ?_
  rintro e w2 ⟨rfl, hd2, hu2⟩
  obtain ⟨h1j, h1, hn1, hjm, hbn, hO, hu1, hg1, hm, hmw1, hT⟩ := H.out
  have hl1 := flushR_len F O P
  have ho1 := flushR_F F O P
  have hcr : comR base n F O P W = comR base n F O P W := rfl
  conv at hcr => rhs; unfold comR
  generalize comR base n F O P W = R at *
  generalize flushR F O P = r at *
  have hj2 := h1j.keep hu2 hjm
  have gm2 := hu2.cellv g0' (fun h => h.2 rfl)
  obtain ⟨d0, -, -, -, -, d5⟩ := hj2.c
  have H2 := Lib.hid (And.intro hd2 (And.intro hu2 (And.intro hj2 (And.intro hl1 (And.intro ho1 hcr)))))
  clear h1j h1 hn1 hjm hbn hO hu1 hg1 hm hmw1 hT hl1 ho1 hcr hj2 hd2 hu2 HF c0 c5 g0 g0'
  by_cases hcd : r.cd = 0
  · have hcd' := Lib.hid hcd
    rw [hcd]
    clear hcd
    by_cases hW : W.length = 0
    · have hW' := Lib.hid hW
      rw [hW] at d5
      clear hW
      go_wp2
      go_ret
      obtain ⟨hd2, hu2, hj2, hl1, ho1, hcr⟩ := H2.out
      rw [if_pos (Or.inr (List.length_eq_zero_iff.1 hW'.out))] at hcr
      subst hcr
      refine ⟨by rw [hcd'.out]; rfl, hd2.wide (fun k h => h.1), ⟨_, hj2, .inl rfl⟩, ?_⟩
      obtain ⟨h1j, h1, hn1, hjm, hbn, hO, hu1, hg1, hm, hmw1, hT⟩ := H.out
      exact (hu1.mono (fun _ _ h => h.elim)).trans (hu2.mono (fun k _ h => .inl h.1))
    · have hW' := Lib.hid hW
      obtain ⟨hd2, hu2, hj2, hl1, ho1, hcr⟩ := H2.out
      obtain ⟨h1j, h1, hn1, hjm, hbn, hO, hu1, hg1, hm, hmw1, hT⟩ := H.out
      have HC := Lib.hid (jfirst hj2 h1 gm2 hd2 (fun k hk => hn1 k (Nat.le_trans hu2.size hk)) hjm (fun h => h.2 rfl) (by omega) (by omega))
      rw [if_neg (fun e => e.elim (fun h => h hcd'.out) (fun h => hW (by simp [h])))] at hcr
      have hfl := comW_F base n r.F W r.O r.P
      have hol := comW_O base n r.F W r.O r.P
      generalize comW base n r.F W r.O r.P = r2 at *
      have H2' := Lib.hid (And.intro hcr (And.intro hfl hol))
      clear hcr hfl hol h1j h1 hn1 hjm hbn hO hu1 hg1 hm hmw1 hT hd2 hu2 hj2 hl1 ho1 hW
      have hW := hW'.out
      go_wp2_with fail
      refine HC.out.mono ?_
      rintro e w3 ⟨rfl, hd3, hu3⟩
      obtain ⟨hd2, hu2, hj2, hl1, ho1, -⟩ := H2.out
      obtain ⟨h1j, h1, hn1, hjm, hbn, hO, hu1, hg1, hm, hmw1, hT⟩ := H.out
      have hj3 := hj2.keep hu3 hjm
      have gm3 := hu3.cellv gm2 (fun h => h.2 rfl)
      obtain ⟨e0, -, -, -, -, e5⟩ := hj3.c
      have HF3 := Lib.hid (dflushR hd3 (fun k hk => hn1 k (Nat.le_trans (Nat.le_trans hu2.size hu3.size) hk)))
      have hU3 : Upd (fun k => T k ∨ k = j) w w3 := ((hu1.mono (fun _ _ h => h.elim)).trans (hu2.mono (fun k _ h => .inl h.1))).trans (hu3.mono (fun k _ h => .inl h.1))
      have H3 := Lib.hid (And.intro hd3 (And.intro hj3 (And.intro hU3 hjm)))
      clear h1j h1 hn1 hjm hbn hO hu1 hg1 hm hmw1 hT hd2 hu2 hj2 hl1 ho1 hd3 hu3 hj3 hU3 d0 d5 gm2 HC
      by_cases hc2 : r2.cd = 0
      · have hc2' := Lib.hid hc2
        rw [hc2]
        clear hc2
        go_wp2_with fail
        refine HF3.out.mono ?_
        rintro e w4 ⟨rfl, hd4, hu4⟩
        obtain ⟨hcr, hfl, hol⟩ := H2'.out
        obtain ⟨hd3, hj3, hU3, hjm⟩ := H3.out
        rw [if_neg (fun e => e hc2'.out)] at hcr
        generalize flushR r2.F r2.O r2.P = r3 at *
        have hj4 := hj3.keep hu4 hjm
        have gm4 := hu4.cellv gm3 (fun h => h.2 rfl)
        have z5 := hj4.fz 5
        obtain ⟨-, -, -, -, -, k5⟩ := hj4.c
        have hU4 : Upd (fun k => T k ∨ k = j) w w4 := hU3.trans (hu4.mono (fun k _ h => .inl h.1))
        have H4 := Lib.hid (And.intro hcr (And.intro hd4 (And.intro hj4 (And.intro hU4 hjm))))
        clear hcr hfl hol hd3 hj3 hU3 hjm hd4 hu4 hj4 hU4 e0 e5 gm3 HF3
        by_cases hc3 : r3.cd = 0
        · have hc3' := Lib.hid hc3
          rw [hc3]
          clear hc3
          go_wp2
          go_ret
          obtain ⟨hcr, hd4, hj4, hU4, hjm⟩ := H4.out
          rw [if_neg (fun e => e hc3'.out)] at hcr
          subst hcr
          have hu5 := upd_setCell w4 j 5 (.slice none 0 0)
          refine ⟨by rw [hc3'.out]; rfl, (hd4.keep hu5 (fun k hk e => hjm k (.inl e) hk)).wide (fun k h => h.1), ⟨.slice none 0 0, ⟨(heap_setCell_same hj4.str 5 _).trans (by simp), Sl.nil _ _ _, by simp [Value.ownBlock], ⟨by simp, by simp, hj4.good.n1, by have := hj4.good.wl; simp; omega, hj4.good.room, hj4.good.mx, hj4.good.bs⟩⟩, .inr rfl⟩, hU4.trans (hu5.mono (fun k _ e => .inr e))⟩
        · have q0 : (r3.cd == 0) = false := by simpa using hc3
          go_wp2
          go_ret
          obtain ⟨hcr, hd4, hj4, hU4, hjm⟩ := H4.out
          rw [if_pos hc3] at hcr
          subst hcr
          exact ⟨rfl, hd4.wide (fun k h => h.1), ⟨_, hj4, .inl rfl⟩, hU4⟩
      · have q0 : (r2.cd == 0) = false := by simpa using hc2
        go_wp2
        go_ret
        obtain ⟨hcr, -⟩ := H2'.out
        obtain ⟨hd3, hj3, hU3, hjm⟩ := H3.out
        rw [if_pos hc2] at hcr
        subst hcr
        exact ⟨rfl, hd3.wide (fun k h => h.1), ⟨_, hj3, .inl rfl⟩, hU3⟩
  · have q0 : (r.cd == 0) = false := by simpa using hcd
    go_wp2
    go_ret
    obtain ⟨hd2, hu2, hj2, hl1, ho1, hcr⟩ := H2.out
    rw [if_pos (Or.inl hcd)] at hcr
    subst hcr
    refine ⟨rfl, hd2.wide (fun k h => h.1), ⟨_, hj2, .inl rfl⟩, ?_⟩
    obtain ⟨h1j, h1, hn1, hjm, hbn, hO, hu1, hg1, hm, hmw1, hT⟩ := H.out
    exact (hu1.mono (fun _ _ h => h.elim)).trans (hu2.mono (fun k _ h => .inl h.1))
theorem Did.step2 {own : Nat → Nat} {w w' : World} {t s q : Nat} (hf : ∀ j, w.heap.size ≤ j → own j = 0) (ht : t ≠ 0) (h16 : t < 16) (hs : s ≠ 0) (hs16 : s < 16) (hq : own q = s) (hu : Upd (fun j => (own j = t ∨ w.heap.size ≤ j) ∨ j = q) w w') : Did own (grow own t w.heap.size w'.heap.size) w w' where
  upd := hu.mono (fun j hj h => by rcases h with (h | h) | h; exact h ▸ ⟨ht, h16⟩; omega; subst h; rw [hq]; exact ⟨hs, hs16⟩)
  old := fun j hj => grow_old hj
  new := fun j hj => by
    unfold grow
    split
    · exact h16
    · rw [hf j hj]; decide
  far := fun j hj => by
    have := hu.size
    unfold grow
    rw [if_neg (by omega)]
    exact hf j (by omega)
section
variable {R : (Nat → Prop) → World → Prop} {own : Nat → Nat} {w w' : World} {t s k q : Nat}
theorem Thing.other2 (hR : Thing R) (h : R (fun j => own j = k) w) (hk : k ≠ t) (hks : k ≠ s) (hq : own q = s) (hu : Upd (fun j => (own j = t ∨ w.heap.size ≤ j) ∨ j = q) w w') : R (fun j => grow own t w.heap.size w'.heap.size j = k) w' := by
  have h1 : R (fun j => own j = k ∧ j < w.heap.size) w := hR.out h (fun j hj hs => ⟨hs, hj⟩)
  have h2 := hR.keep h1 hu (fun j hs ht => by rcases ht with (ht | ht) | ht; exact hk (hs.1.symm.trans ht); omega; subst ht; exact hks (hs.1.symm.trans hq))
  exact hR.out h2 (fun j hj hs => by rw [grow_old hs.2]; exact hs.1)
end
section
variable {own : Nat → Nat} {w w' : World} {c : Nat} {n : CaN} {p : CaP} {a : CaS}
theorem CaAt.jrOwn (h : CaAt own w c n p a) : own p.jr = 4 ∧ p.jr < w.heap.size := by
  obtain ⟨vw, hj, hS⟩ := h.jr
  exact ⟨hS _ (.inl rfl), lt_of_block hj.str⟩
theorem CaAt.turn24 (h : CaAt own w c n p a) {F : List Bk} {O : List (Nat × Bk)} {P : List Int} {W : List (Nat × Bk)} (hu : Upd (fun j => (own j = 2 ∨ w.heap.size ≤ j) ∨ j = p.jr) w w') (hd : Dv (fun j => own j = 2 ∨ w.heap.size ≤ j) w' p.ssd F O P) (hl : F.length = a.dF.length)
    (hj : Jn (fun j => own j = 4 ∧ j < w.heap.size) w' p.jr p.ssd (1 + 2 * n.pa) n.jo a.cov a.next W) :
    CaAt (grow own 2 w.heap.size w'.heap.size) w' c n p { a with dF := F, dO := O, dP := P, W := W } := by
  have hq := h.jrOwn.1
  exact { h with
    str := (hu.block c h.clt (fun hs => by rcases hs with (hs | hs) | hs; rw [h.oc] at hs; exact absurd hs (by decide); exact absurd h.clt (by omega); have := h.oc; rw [hs, hq] at this; exact absurd this (by decide))).trans h.str
    oc := (grow_old h.clt).trans h.oc
    ssd := (Dv.thing _ _ _ _).mine hu.size hd
    back := (Dv.thing _ _ _ _).other2 h.back (by decide) (by decide) hq hu
    jr := (Jn.thing _ _ _ _ _ _ _).out hj (fun j _ hs => by rw [grow_old hs.2]; exact hs.1)
    ix := (Ix.thing _ _ _ _).other2 h.ix (by decide) (by decide) hq hu
    ss := (Ss.thing _ _).other2 h.ss (by decide) (by decide) hq hu
    lg := (Lg.thing _ _ _).other2 h.lg (by decide) (by decide) hq hu
    ck := (Ck.thing _ _ _ _ _ _ _).other2 h.ck (by decide) (by decide) hq hu
    sm := (Mp.thing _ _ _).other2 h.sm (by decide) (by decide) hq hu
    far := (Did.step2 h.far (t := 2) (s := 4) (by decide) (by decide) (by decide) (by decide) hq hu).far
    nib := h.nib.keep hu (fun hs => by rcases hs with (hs | hs) | hs; rw [h.on] at hs; exact absurd hs (by decide); exact absurd h.nib.lt (by omega); exact absurd (h.on.symm.trans ((congrArg own hs).trans hq)) (by decide))
    tur := h.tur.keep hu (fun hs => by rcases hs with (hs | hs) | hs; rw [h.ot] at hs; exact absurd hs (by decide); exact absurd h.tur.lt (by omega); exact absurd (h.ot.symm.trans ((congrArg own hs).trans hq)) (by decide))
    on := (grow_old h.nib.lt).trans h.on
    ot := (grow_old h.tur.lt).trans h.ot
    fl := hl.trans h.fl }
abbrev CaS.dev (a : CaS) (r : DRes) : CaS := { a with dF := r.F, dO := r.O, dP := r.P }
abbrev CaS.bdev (a : CaS) (r : DRes) : CaS := { a with bF := r.F, bO := r.O, bP := r.P }
theorem ca_ssd_write (h : CaAt own w c n p a) (s : Nat) (hs : s < a.dF.length) (x : Bk) (hx : x.length = 64) (hO : a.dO.length < 65536) :
    Calls Tryz.prog 17 #[ptr p.ssd, .int .i64 (s : Int), .agg (bkC x).toArray] w (CaOut own w c n p (a.dev (writeR a.dF a.dO a.dP s x)) (.int .i64 (writeR a.dF a.dO a.dP s x).cd)) :=
  (dwriteR h.open2 (fun _ h => .inr h) s hs x hx hO).mono fun _ _ ⟨he, hd, hu⟩ => ⟨he, _, h.turn2 hu hd (by rw [writeR_F]), h.did2 hu⟩
theorem ca_back_write (h : CaAt own w c n p a) (s : Nat) (hs : s < a.bF.length) (x : Bk) (hx : x.length = 64) (hO : a.bO.length < 65536) :
    Calls Tryz.prog 17 #[ptr p.back, .int .i64 (s : Int), .agg (bkC x).toArray] w (CaOut own w c n p (a.bdev (writeR a.bF a.bO a.bP s x)) (.int .i64 (writeR a.bF a.bO a.bP s x).cd)) :=
  (dwriteR h.open3 (fun _ h => .inr h) s hs x hx hO).mono fun _ _ ⟨he, hd, hu⟩ => ⟨he, _, h.turn3 hu hd (by rw [writeR_F]), h.did3 hu⟩
def CaRead (own : Nat → Nat) (w : World) (c : Nat) (n : CaN) (p : CaP) (a : CaS) (y0 : Bk) (cd0 : Int) (e : Ending) (w' : World) : Prop :=
  ∃ (y : Bk) (cd : Int), y = y0 ∧ cd = cd0 ∧ y.length = 64 ∧ e = .returned (.tuple #[.agg (bkC y).toArray, .int .i64 cd]) ∧ ∃ own', CaAt own' w' c n p a ∧ Did own own' w w'
theorem ca_ssd_read (h : CaAt own w c n p a) (s : Nat) (hs : s < a.dF.length) :
    Calls Tryz.prog 49 #[ptr p.ssd, .int .i64 (s : Int)] w (CaRead own w c n p { a with dP := a.dP.tail } (if fate a.dP = 1 then zB else curB a.dF a.dO s) (if fate a.dP = 1 then 19 else 0)) :=
  (dreadR h.open2 (fun _ h => .inr h) s hs).mono fun _ _ ⟨y, cd, he, hy, hc, hl, hd, hu⟩ => ⟨y, cd, hy, hc, hl, he, _, h.turn2 hu hd rfl, h.did2 hu⟩
theorem ca_back_read (h : CaAt own w c n p a) (s : Nat) (hs : s < a.bF.length) :
    Calls Tryz.prog 49 #[ptr p.back, .int .i64 (s : Int)] w (CaRead own w c n p { a with bP := a.bP.tail } (if fate a.bP = 1 then zB else curB a.bF a.bO s) (if fate a.bP = 1 then 19 else 0)) :=
  (dreadR h.open3 (fun _ h => .inr h) s hs).mono fun _ _ ⟨y, cd, he, hy, hc, hl, hd, hu⟩ => ⟨y, cd, hy, hc, hl, he, _, h.turn3 hu hd rfl, h.did3 hu⟩
theorem ca_jroom (h : CaAt own w c n p a) : Calls Tryz.prog 184 #[ptr p.jr] w (CaOut own w c n p a (.int .i64 ((n.jo : Int) - ((a.next : Int) - 1 - (a.cov : Int))))) :=
  (jroom h.jr).mono fun _ _ ⟨he, hu⟩ => ⟨he, own, h.new hu, h.didNew hu⟩
theorem ca_jadd (h : CaAt own w c n p a) (hroom : a.next ≤ a.cov + n.jo) (hmx : a.next ≤ 1099511627776) (a0 a1 op block slot : Int) (db : Bool) (sum : Int) (hmay : mayR (jaddX a.next n.jo op block slot db sum) = true) :
    Calls Tryz.prog 146 #[ptr p.jr, .agg (recC a0 a1 op block slot db sum).toArray] w (CaOut own w c n p { a with next := a.next + 1, W := a.W ++ [(a.next, sectR (jaddX a.next n.jo op block slot db sum))] } (.tuple #[.int .i64 (a.next : Int), .int .i64 0])) :=
  (jadd h.open4 (fun _ h => .inr h) h.nib (fun hs => by rcases hs with hs | hs; rw [h.on] at hs; exact absurd hs (by decide); exact absurd h.nib.lt (by omega)) hroom hmx a0 a1 op block slot db sum hmay).mono fun _ _ ⟨he, hj, hu⟩ => ⟨he, _, h.turn4 hu hj, h.did4 hu⟩
abbrev CaS.com (n : CaN) (a : CaS) : DRes × List (Nat × Bk) := comR (1 + 2 * n.pa) n.jo a.dF a.dO a.dP a.W
theorem comR_len (base k : Nat) (F : List Bk) (O : List (Nat × Bk)) (P : List Int) (W : List (Nat × Bk)) : (comR base k F O P W).1.F.length = F.length := by
  unfold comR
  repeat' split
  all_goals simp only [flushR_len, comW_F]
theorem ca_commit (h : CaAt own w c n p a) (h1 : ∀ q ∈ a.W, 1 ≤ q.1) (hO : a.dO.length + a.W.length ≤ 65536) :
    Calls Tryz.prog 141 #[ptr p.jr] w (CaOut own w c n p { a.dev (a.com n).1 with W := (a.com n).2 } (.int .i64 (a.com n).1.cd)) := by
  obtain ⟨vw, hj, hS⟩ := h.jr
  have hfl := h.fl
  have hz := h.ok.z
  unfold CaN.size at hfl
  refine (jcommit hj h1 h.open2 (fun _ h => .inr h) ?_ (by omega) hO).mono ?_
  · intro k hk hs
    have h4 := hS k hk
    rcases hs with hs | hs
    · rw [h4] at hs; exact absurd hs (by decide)
    · have := hj.slt k hk; omega
  · rintro e w' ⟨rfl, hd, ⟨vw', hj', hv⟩, hu⟩
    have hq := h.jrOwn.1
    refine ⟨rfl, _, h.turn24 hu hd (comR_len _ _ _ _ _ _) ⟨vw', hj', ?_⟩, Did.step2 h.far (by decide) (by decide) (by decide) (by decide) hq hu⟩
    rintro k (rfl | hk)
    · exact ⟨hS _ (.inl rfl), lt_of_block hj.str⟩
    · rcases hv with rfl | hv
      · exact ⟨hS _ (.inr hk), hj.slt k (.inr hk)⟩
      · rw [hv] at hk; cases hk
end
def putC (ps : List (Int × Bool)) (slots : Nat) (k s : Int) : Int :=
  if k < 0 ∨ (ps.length : Int) ≤ k ∨ s < 0 ∨ (slots : Int) ≤ s then 10 else if atOf ps s = none ∨ atOf ps s = some k.toNat then 0 else 15
def putL (ps : List (Int × Bool)) (slots : Nat) (k s : Int) (d : Bool) : List (Int × Bool) := if putC ps slots k s = 0 then ps.set k.toNat (s, d) else ps
def putV (ps : List (Int × Bool)) (slots : Nat) (k s : Int) : Int × Bool := if putC ps slots k s = 0 then ps.getD k.toNat (-1, false) else (0, false)
theorem Upd.undrew {S : Nat → Prop} {w w' : World} (h : Upd S w.drew w') : Upd S w w' := ⟨h.os, h.tape, h.output, h.size, h.block⟩
theorem Sl.setAt {w : World} {e : TypeId} {m g off n cap : Nat} {xs : List Value} (h : Sl w e m (.slice (some ⟨g, off, none⟩) n cap) n xs) (i : Nat) (hi : i < n * m) (u : Value) :
    Sl (w.setCell ⟨g, off + i, none⟩ u) e m (.slice (some ⟨g, off, none⟩) n cap) n (xs.set i u) := by
  obtain ⟨hl, ⟨h1, _⟩ | ⟨g', off', cap', cur, h1, hg, hn, hm, hs, hc⟩⟩ := h
  · cases h1
  · cases h1
    have hle : n * m ≤ cap * m := Nat.mul_le_mul_right m hn
    refine ⟨by simpa using hl, .inr ⟨g, off, cap, _, rfl, heap_setCell_same hg _ _, hn, hm, by simpa using hs, fun j x hj => ?_⟩⟩
    by_cases hji : i = j
    · subst hji
      rw [List.getElem?_set_self (by omega)] at hj
      cases hj
      rw [Array.getElem?_setIfInBounds_self, if_pos (by omega)]
    · rw [List.getElem?_set_ne hji] at hj
      rw [Array.getElem?_setIfInBounds_ne (by omega)]
      exact hc j x hj
theorem plC_set (s : Int) (d : Bool) : ∀ (ps : List (Int × Bool)) (k : Nat), ((plC ps).set (k * 2) (.int .i64 s)).set (k * 2 + 1) (.bool d) = plC (ps.set k (s, d))
  | [], k => by simp [plC]
  | p :: ps, 0 => by simp [plC]
  | p :: ps, k + 1 => by
    have := plC_set s d ps k
    simp only [plC, List.flatMap_cons, List.set_cons_succ, List.cons_append, List.nil_append] at this ⊢
    rw [show (k + 1) * 2 = k * 2 + 1 + 1 by omega]
    simp only [List.set_cons_succ]
    rw [this]
theorem Sl.putPlace {w : World} {g off cap : Nat} {ps : List (Int × Bool)} (h : Sl w 108 2 (.slice (some ⟨g, off, none⟩) ps.length cap) ps.length (plC ps)) (k : Nat) (hk : k < ps.length) (s : Int) (d : Bool) :
    Sl ((w.setCell ⟨g, off + k * 2, none⟩ (.int .i64 s)).setCell ⟨g, off + k * 2 + 1, none⟩ (.bool d)) 108 2 (.slice (some ⟨g, off, none⟩) ps.length cap) (ps.set k (s, d)).length (plC (ps.set k (s, d))) := by
  rw [← plC_set, List.length_set, Nat.add_assoc off]
  exact (h.setAt (k * 2) (by omega) _).setAt (k * 2 + 1) (by omega) _
set_option maxRecDepth 100000 in
set_option maxHeartbeats 1000000 in
theorem put_ok {w : World} {b mb N : Nat} {v : Value} {ps : List (Int × Bool)} {slots : Nat} (h : IndexAt w b v mb N ps slots) (k : Nat) (s : Int) (d : Bool) (hk : k < ps.length) (h0 : 0 ≤ s) (h1 : s < slots) (hm : mayPut ps k s) (hN : N < maxLen) :
    Calls Tryz.prog 191 #[.pointer (some ⟨b, 0, none⟩), .int .i64 k, placeV s d] w fun e w' => e = .returned (.tuple #[placeV ps[k].1 ps[k].2, .int .i64 0]) ∧
      IndexAt w' b v mb (N + 1) (ps.set k (s, d)) slots ∧ Upd (ixS v mb) w w' := by
  have hu : Upd (fun _ => False) w ((w.alloc (.cells #[.int .i64 s, .bool d] 108)).alloc (.cells #[.int .i64 0, .bool false] 108)) := ((Upd.refl _ _).alloc _).alloc _
  have H := Lib.hid h
  have hbl := h.blt
  have hle := h.le
  have hsl := h.sl1
  have G0 := cell_of_block h.str 0
  have G1 := cell_of_block h.str 1
  have G2 := cell_of_block h.str 2
  simp at G0 G1 G2
  obtain ⟨g, off, cap, rfl, hg, P0, P1⟩ := h.at hk
  have g0 := (hu.cellAt (o := 0) hbl (fun h => h)).trans G0
  have g1 := (hu.cellAt (o := 1) hbl (fun h => h)).trans G1
  have g2 := (hu.cellAt (o := 2) hbl (fun h => h)).trans G2
  have x1 : ¬ (k : Int) < 0 := by omega
  clear h 
  go_enter Tryz.func191, Tryz.ntmps191
  go_wp2
  go_quiet (fail)
  clear g0 g1 g2
  generalize hw3 : (((w.alloc (.cells #[.int .i64 s, .bool d] 108)).alloc (.cells #[.int .i64 0, .bool false] 108)).drewN nq) = w3
  have hu3 : Upd (fun _ => False) w w3 := by rw [← hw3]; exact hu.drewN nq
  have hbx : w3.heap[w.heap.size]? = some (.cells #[.int .i64 s, .bool d] 108) := by
    rw [← hw3]; exact ((Upd.alloc (Upd.refl (fun _ => False) _) (.cells #[.int .i64 0, .bool false] 108)).block w.heap.size (by simp) (fun h => h)).trans (heap_alloc_last w _ rfl)
  have hrx : w3.heap[w.heap.size + 1]? = some (.cells #[.int .i64 0, .bool false] 108) := by
    rw [← hw3]; exact heap_alloc_last _ _ (by simp)
  have hz3 : w3.heap.size = w.heap.size + 2 := by rw [← hw3]; simp [World.drewN]
  clear hw3 hu
  have g0 := (hu3.cellAt (o := 0) hbl (fun h => h)).trans G0
  have g1 := (hu3.cellAt (o := 1) hbl (fun h => h)).trans G1
  have p0 := (hu3.cellAt hg (fun h => h)).trans P0
  have p1 := (hu3.cellAt hg (fun h => h)).trans P1
  have b0 := cell_of_block hbx 0
  have b1 := cell_of_block hbx 1
  simp at b0 b1
  have hI3 := Lib.hid (H.out.keep hu3 (fun h => h) (fun _ _ h => h))
  have HB := Lib.hid hbx
  have HR := Lib.hid hrx
  clear hbx hrx P0 P1 G2
  have hl := (show MapAt w3.drew mb N (atOf ps) from hI3.out.map).look (x := s) (by omega) (by omega)
  obtain ⟨o, c, hl', hoc⟩ : ∃ (o : Bool) (c : Nat), (Instr.lookup 168 (.map (some mb)) (.int .i64 s) true).run Tryz.prog w3.drew = .ok (.tuple #[.int .i64 (c : Int), .bool o]) w3.drew ∧ (o = false ∨ o = true ∧ c = k) := by
    refine ⟨_, _, hl, ?_⟩
    rcases hm with e | e <;> rw [e] <;> simp
  clear hl
  have HM : Hid (mayPut ps k s) := hm
  clear hm
  have hoc' : o = false ∨ o = true ∧ k = c := hoc.imp id (fun h => ⟨h.1, h.2.symm⟩)
  clear hoc
  rcases hoc' with rfl | ⟨rfl, rfl⟩
  all_goals
    go_wp2
    go_region
    clear hl'
    go_wp2
    clear b0 b1 p0 p1 g0 g1
    generalize hw4 : (w3.alloc (.cells #[.int .i64 ps[k].1, .bool ps[k].2] 108)).drew = w4
    have hu34 : Upd (fun _ => False) w3 w4 := by rw [← hw4]; exact ((Upd.refl _ _).alloc _).drew
    have hwx : w4.heap[w.heap.size + 2]? = some (.cells #[.int .i64 ps[k].1, .bool ps[k].2] 108) := by rw [← hw4, ← hz3]; exact heap_alloc_last w3 _ rfl
    have hz4 : w4.heap.size = w.heap.size + 3 := by rw [← hw4]; show (w3.alloc _).heap.size = _; simp [hz3]
    clear hw4
    have hI4 := hI3.out.keep hu34 (fun h => h) (fun _ _ h => h)
    have HB4 := (hu34.block _ (by omega) (fun h => h)).trans HB.out
    have HR4 := (hu34.block _ (by omega) (fun h => h)).trans HR.out
    have hr := hI4.good.each k hk
    obtain ⟨w5, hdel, hM5, hu45', hz5⟩ := (show MapAt w4.drew mb N (atOf ps) from hI4.map).drop (x := ps[k].1) (by rcases hr with e | e; rw [e]; decide; omega) (by rcases hr with e | e; rw [e]; decide; omega) 0
    have hu45 := hu45'.undrew
    have hz5' : w5.heap.size = w.heap.size + 3 := hz5.trans hz4
    clear hu45' hz5
    have hbm : b ≠ mb := fun e => hI4.nm e.symm
    have hgm : g ≠ mb := fun e => hI4.nv (by rw [e]; rfl)
    have hgb : g ≠ b := fun e => hI4.ne (by rw [e]; rfl)
    have hmlt := H.out.map.lt
    have W5 : Hid (w5.heap[w.heap.size + 2]? = some (.cells #[.int .i64 ps[k].1, .bool ps[k].2] 108) ∧ w5.heap[w.heap.size + 1]? = some (.cells #[.int .i64 0, .bool false] 108) ∧ w5.heap[w.heap.size]? = some (.cells #[.int .i64 s, .bool d] 108)) :=
      ⟨(hu45.block _ (by omega) (by omega)).trans hwx, (hu45.block _ (by omega) (by omega)).trans HR4, (hu45.block _ (by omega) (by omega)).trans HB4⟩
    have hS5 := Lib.hid (hI4.sl.keep hu45 (fun g' hg' e => by simp [Value.ownBlock] at hg'; omega))
    have u0 := cell_of_block hwx 0
    have m1 := cell_of_block hI4.str 1
    simp at u0 m1
    have hM5' := Lib.hid hM5
    have T5 := Lib.hid ((hu45.block _ hI4.blt hbm).trans hI4.str)
    have U5 := Lib.hid (((hu3.trans hu34).mono (S' := fun j => j = mb) (fun _ _ h => h.elim)).trans hu45)
    clear hu34 HB4 HR4 hwx hM5 hr
    go_wp2
    go_region
    clear hdel u0 m1 hu45 hI4 hz4
    obtain ⟨g', off', cap', cur, hve, hg5, hcs, hcc⟩ := hS5.out.at (by omega)
    cases hve
    have e0 := (cell_of_block hg5 (off + k * 2)).trans (hcc _ _ (plC_at hk).1)
    have e1 := (cell_of_block hg5 (off + k * 2 + 1)).trans (hcc (k * 2 + 1) _ (plC_at hk).2)
    have f0 := frozen_of_block hg5 (off + k * 2)
    have f1 := frozen_of_block hg5 (off + k * 2 + 1)
    have t0 := cell_of_block T5.out 0
    have y0 := cell_of_block W5.out.2.2 0
    have y1 := cell_of_block W5.out.2.2 1
    simp at t0 y0 y1
    clear hcs hcc hg5
    go_wp2
    go_region
    clear t0 y0 y1 e0 e1 f0 f1
    generalize hw6 : ((w5.setCell ⟨g, off + k * 2, none⟩ (.int .i64 s)).setCell ⟨g, off + k * 2 + 1, none⟩ (.bool d)).drew = w6
    have hu56 : Upd (fun j => j = g) w5 w6 := by rw [← hw6]; exact ((upd_setCell w5 g (off + k * 2) _).trans (upd_setCell _ g (off + k * 2 + 1) _)).drew
    have hS6 : Sl w6 108 2 (.slice (some ⟨g, off, none⟩) ps.length cap) (ps.set k (s, d)).length (plC (ps.set k (s, d))) := by
      rw [← hw6]; exact (hS5.out.putPlace k hk s d).keep ((Upd.refl (fun _ => False) _).drew) (fun _ _ h => h)
    have hz6 : w6.heap.size = w.heap.size + 3 := by rw [← hw6]; simp [World.drew, hz5']
    clear hw6
    have hM6 := hM5'.out.keep hu56 (fun e => hgm e.symm)
    have T6 := (hu56.block _ (by omega) (fun e => hgb e.symm)).trans T5.out
    have R6 := (hu56.block _ (by omega) (by omega)).trans W5.out.1
    have R6' := (hu56.block _ (by omega) (by omega)).trans W5.out.2.1
    have B6 := (hu56.block _ (by omega) (by omega)).trans W5.out.2.2
    obtain ⟨w7, hst, hM7, hu67', hz7⟩ := (show MapAt w6.drew mb N (upd1 (atOf ps) ps[k].1 none) from hM6).store (x := s) (by omega) (by omega) k (by omega) hN
    have hu67 := hu67'.undrew
    have t1 := cell_of_block T6 1
    have y0 := cell_of_block B6 0
    simp at t1 y0
    clear hu67'
    go_wp2
    go_region
    clear hst t1 y0
    have X7 := (hu67.block _ (by omega) (by omega)).trans R6
    have R7 := (hu67.block _ (by omega) (by omega)).trans R6'
    have T7 := (hu67.block _ (by omega) hbm).trans T6
    have S7 := hS6.keep hu67 (fun g' hg' e => by simp [Value.ownBlock] at hg'; omega)
    have hG := hI3.out.good
    have hI7 : IndexAt w7 b (.slice (some ⟨g, off, none⟩) ps.length cap) mb (N + 1) (ps.set k (s, d)) slots :=
      { str := T7, sl := by simpa using S7, map := by rw [hG.atOf_put hk d h0 h1 HM.out]; exact hM7, good := hG.put hk d h0 h1 HM.out, ne := H.out.ne, nm := H.out.nm, nv := H.out.nv, le := by simpa using hle, sl1 := hsl }
    have hz7' : w7.heap.size = w.heap.size + 3 := hz7.trans hz6
    have U7 : Upd (ixS (.slice (some ⟨g, off, none⟩) ps.length cap) mb) w w7 :=
      ((U5.out.mono (fun j _ e => .inr e)).trans (hu56.mono (fun j _ e => .inl (by rw [e]; rfl)))).trans (hu67.mono (fun j _ e => .inr e))
    have HI := Lib.hid hI7
    have HU := Lib.hid U7
    have HR7 := Lib.hid R7
    have r0 := cell_of_block R7 0
    have r1 := cell_of_block R7 1
    have q0 := frozen_of_block R7 0
    have q1 := frozen_of_block R7 1
    have x0 := cell_of_block X7 0
    have x1' := cell_of_block X7 1
    simp at r0 r1 x0 x1'
    clear X7 R7 T7 S7 hG hI7 U7 R6 R6' B6 T6 hM6 hM7 hu56 hu67 hS6 hz7
    go_wp2
    have HA3 := heap_setCell_same (heap_setCell_same HR7.out 0 (.int .i64 ps[k].1)) 1 (.bool ps[k].2)
    have y0 := cell_of_block HA3 0
    have y1 := cell_of_block HA3 1
    simp at y0 y1
    have hue : Upd (fun j => j = w.heap.size + 1) w7 ((w7.setCell ⟨w.heap.size + 1, 0, none⟩ (.int .i64 ps[k].1)).setCell ⟨w.heap.size + 1, 1, none⟩ (.bool ps[k].2)) := (upd_setCell w7 (w.heap.size + 1) 0 _).trans (upd_setCell _ _ 1 _)
    refine bodyPost_ret (v := .tuple #[placeV ps[k].1 ps[k].2, .int .i64 0]) ?_ rfl ⟨rfl, ?_, ?_⟩
    · simp [results, Tryz.results191, go_sem, y0, y1]
    · exact HI.out.keep hue (by omega) (fun j hj e => by have := H.out.slt j hj; omega)
    · exact HU.out.new (hue.mono (fun _ _ h => h)) (fun j hj e => by omega)
theorem res_none (w : World) (a : Nat) (h : w.heap[a]? = some (.cells #[.int .i64 0, .bool false] 108)) : w.cell? ⟨a, 0, none⟩ = some (.int .i64 0) ∧ w.cell? ⟨a, 1, none⟩ = some (.bool false) ∧ w.frozen? ⟨a, 0, none⟩ = false ∧ w.frozen? ⟨a, 1, none⟩ = false :=
  ⟨cell_of_block h 0, cell_of_block h 1, frozen_of_block h 0, frozen_of_block h 1⟩
theorem res_same (w : World) (a : Nat) (h : w.heap[a]? = some (.cells #[.int .i64 0, .bool false] 108)) :
    (((w.setCell ⟨a, 0, none⟩ (.int .i64 0)).setCell ⟨a, 1, none⟩ (.bool false)).cell? ⟨a, 0, none⟩ = some (.int .i64 0) ∧ ((w.setCell ⟨a, 0, none⟩ (.int .i64 0)).setCell ⟨a, 1, none⟩ (.bool false)).cell? ⟨a, 1, none⟩ = some (.bool false)) := by
  have h3 := heap_setCell_same (heap_setCell_same h 0 (.int .i64 0)) 1 (.bool false)
  have y0 := cell_of_block h3 0
  have y1 := cell_of_block h3 1
  simp at y0 y1
  exact ⟨y0, y1⟩
theorem res_below {B : Nat} {a w : World} (h : Below B a w) (x : Nat) (hx : B ≤ x) (u u' : Value) : Below B a ((w.setCell ⟨x, 0, none⟩ u).setCell ⟨x, 1, none⟩ u') :=
  (h.setCell (p := ⟨x, 0, none⟩) hx _).setCell (p := ⟨x, 1, none⟩) hx _
set_option maxRecDepth 100000 in
set_option maxHeartbeats 2000000 in
theorem put_there {w : World} {b mb N : Nat} {v : Value} {ps : List (Int × Bool)} {slots : Nat} (h : IndexAt w b v mb N ps slots) (k : Nat) (s : Int) (d : Bool) (hk : k < ps.length) (h0 : 0 ≤ s) (h1 : s < slots) (hm : ¬ mayPut ps k s) :
    Calls Tryz.prog 191 #[.pointer (some ⟨b, 0, none⟩), .int .i64 k, placeV s d] w fun e w' => e = .returned (.tuple #[placeV 0 false, .int .i64 15]) ∧ Below w.heap.size w w' := by
  have hu : Upd (fun _ => False) w ((w.alloc (.cells #[.int .i64 s, .bool d] 108)).alloc (.cells #[.int .i64 0, .bool false] 108)) := ((Upd.refl _ _).alloc _).alloc _
  have H := Lib.hid h
  have hbl := h.blt
  have hle := h.le
  have hsl := h.sl1
  have G1 := cell_of_block h.str 1
  have g0 := (hu.cellAt (o := 0) hbl (fun h => h)).trans (cell_of_block h.str 0)
  have g2 := (hu.cellAt (o := 2) hbl (fun h => h)).trans (cell_of_block h.str 2)
  simp at g0 G1 g2
  obtain ⟨ao, c, rfl⟩ := h.sl.rd.nil_iff
  have x1 : ¬ (k : Int) < 0 := by omega
  obtain ⟨o, ho, hok⟩ : ∃ o : Nat, atOf ps s = some o ∧ o ≠ k := by
    cases e : atOf ps s with
    | none => exact absurd (.inl e) hm
    | some o => exact ⟨o, rfl, fun e2 => hm (.inr (by rw [e, e2]))⟩
  have hoi : ((o : Int) == (k : Int)) = false := by simp; omega
  clear h hm
  go_enter Tryz.func191, Tryz.ntmps191
  go_wp2
  go_quiet (fail)
  clear g0 g2
  generalize hw3 : (((w.alloc (.cells #[.int .i64 s, .bool d] 108)).alloc (.cells #[.int .i64 0, .bool false] 108)).drewN nq) = w3
  have hb3 : Below w.heap.size w w3 := by rw [← hw3]; exact below_drewN (((Below.refl _ _).alloc (Nat.le_refl _) _).alloc (by simp) _) _
  have hu3 : Upd (fun _ => False) w w3 := by rw [← hw3]; exact hu.drewN nq
  have hrx : w3.heap[w.heap.size + 1]? = some (.cells #[.int .i64 0, .bool false] 108) := by rw [← hw3]; exact heap_alloc_last _ _ (by simp)
  have hbx : w3.heap[w.heap.size]? = some (.cells #[.int .i64 s, .bool d] 108) := by
    rw [← hw3]; exact ((Upd.alloc (Upd.refl (fun _ => False) _) (.cells #[.int .i64 0, .bool false] 108)).block w.heap.size (by simp) (fun h => h)).trans (heap_alloc_last w _ rfl)
  clear hw3 hu
  obtain ⟨r0, r1, f0, f1⟩ := res_none _ _ hrx
  have Y := Lib.hid (res_same _ _ hrx)
  have b0 := cell_of_block hbx 0
  simp at b0
  have g1 := (hu3.cellAt hbl (fun h => h)).trans G1
  have hl := (show MapAt w3.drew mb N (atOf ps) from (MapAt.keep (w' := w3) H.out.map (S := fun _ => False) hu3 (fun h => h))).look (x := s) (by omega) (by omega)
  rw [ho] at hl
  simp only [Option.getD_some, Option.isSome_some] at hl
  clear hrx hbx hu3 G1 ho hok
  go_wp2
  go_region
  clear hl
  go_wp2
  refine bodyPost_ret (v := .tuple #[placeV 0 false, .int .i64 15]) ?_ rfl ⟨rfl, res_below (w := w3.drew) hb3.drew _ (by omega) _ _⟩
  simp [results, Tryz.results191, go_sem, Y.out.1, Y.out.2]
set_option maxRecDepth 100000 in
set_option maxHeartbeats 2000000 in
theorem put_out {w : World} {b mb N : Nat} {v : Value} {ps : List (Int × Bool)} {slots : Nat} (h : IndexAt w b v mb N ps slots) (k s : Int) (d : Bool) (ho : k < 0 ∨ (ps.length : Int) ≤ k ∨ s < 0 ∨ (slots : Int) ≤ s) :
    Calls Tryz.prog 191 #[.pointer (some ⟨b, 0, none⟩), .int .i64 k, placeV s d] w fun e w' => e = .returned (.tuple #[placeV 0 false, .int .i64 10]) ∧ Below w.heap.size w w' := by
  have hu : Upd (fun _ => False) w ((w.alloc (.cells #[.int .i64 s, .bool d] 108)).alloc (.cells #[.int .i64 0, .bool false] 108)) := ((Upd.refl _ _).alloc _).alloc _
  have hbl := h.blt
  have hle := h.le
  have hsl := h.sl1
  have g0 := (hu.cellAt (o := 0) hbl (fun h => h)).trans (cell_of_block h.str 0)
  have g2 := (hu.cellAt (o := 2) hbl (fun h => h)).trans (cell_of_block h.str 2)
  simp at g0 g2
  obtain ⟨ao, c, rfl⟩ := h.sl.rd.nil_iff
  clear h hu
  have ho' : k < 0 ∨ (¬ k < 0 ∧ (ps.length : Int) ≤ k) ∨ (¬ k < 0 ∧ ¬ (ps.length : Int) ≤ k ∧ s < 0) ∨ (¬ k < 0 ∧ ¬ (ps.length : Int) ≤ k ∧ ¬ s < 0 ∧ (slots : Int) ≤ s) := by omega
  clear ho
  rcases ho' with h1 | ⟨h1, h2⟩ | ⟨h1, h2, h3⟩ | ⟨h1, h2, h3, h4⟩
  case' inr.inl =>
    have d1 : decide (k < 0) = false := by simpa using h1
    have d2 : decide ((ps.length : Int) ≤ k) = true := by simpa using h2
  case' inr.inr.inl =>
    have d1 : decide (k < 0) = false := by simpa using h1
    have d2 : decide ((ps.length : Int) ≤ k) = false := by simpa using h2
    have d3 : decide (s < 0) = true := by simpa using h3
  case' inr.inr.inr =>
    have d1 : decide (k < 0) = false := by simpa using h1
    have d2 : decide ((ps.length : Int) ≤ k) = false := by simpa using h2
    have d3 : decide (s < 0) = false := by simpa using h3
    have d4 : decide ((slots : Int) ≤ s) = true := by simpa using h4
  all_goals
    go_enter Tryz.func191, Tryz.ntmps191
    go_wp2
    go_quiet (fail)
    clear g0 g2
    generalize hw3 : (((w.alloc (.cells #[.int .i64 s, .bool d] 108)).alloc (.cells #[.int .i64 0, .bool false] 108)).drewN nq) = w3
    have hb3 : Below w.heap.size w w3 := by rw [← hw3]; exact below_drewN (((Below.refl _ _).alloc (Nat.le_refl _) _).alloc (by simp) _) _
    have hrx : w3.heap[w.heap.size + 1]? = some (.cells #[.int .i64 0, .bool false] 108) := by rw [← hw3]; exact heap_alloc_last _ _ (by simp)
    clear hw3
    obtain ⟨r0, r1, f0, f1⟩ := res_none _ _ hrx
    have Y := Lib.hid (res_same _ _ hrx)
    clear hrx
    go_wp2
    refine bodyPost_ret (v := .tuple #[placeV 0 false, .int .i64 10]) ?_ rfl ⟨rfl, res_below hb3 _ (by omega) _ _⟩
    simp [results, Tryz.results191, go_sem, Y.out.1, Y.out.2]
theorem getD_at {ps : List (Int × Bool)} {n : Nat} (h : n < ps.length) : ps.getD n (-1, false) = ps[n] := by simp [List.getD, h]
theorem get_any {w : World} {b mb N : Nat} {v : Value} {ps : List (Int × Bool)} {slots : Nat} (h : IndexAt w b v mb N ps slots) (k : Int) :
    Calls Tryz.prog 94 #[.pointer (some ⟨b, 0, none⟩), .int .i64 k] w fun e w' => e = .returned (.tuple #[placeV (getV ps k).1 (getV ps k).2, .int .i64 (getC ps k)]) ∧ Below w.heap.size w w' := by
  by_cases ho : k < 0 ∨ (ps.length : Int) ≤ k
  · simp only [getV, getC, if_pos ho]; exact get_out h k ho
  · obtain ⟨n, rfl⟩ : ∃ n : Nat, k = n := ⟨k.toNat, by omega⟩
    have hn : n < ps.length := by omega
    simp only [getV, getC, if_neg ho, Int.toNat_natCast, getD_at hn]
    rcases h.good.each n hn with e | e
    · simp only [e, if_true]; exact get_none h n hn e
    · have h1 : ps[n].1 ≠ -1 := by omega
      have h2 : ps[n] ≠ (-1, false) := fun e => h1 (by rw [e])
      simp only [if_neg h2]; exact get_some h n hn h1
theorem put_any {w : World} {b mb N : Nat} {v : Value} {ps : List (Int × Bool)} {slots : Nat} (h : IndexAt w b v mb N ps slots) (k s : Int) (d : Bool) (hN : N < maxLen) :
    Calls Tryz.prog 191 #[.pointer (some ⟨b, 0, none⟩), .int .i64 k, placeV s d] w fun e w' => e = .returned (.tuple #[placeV (putV ps slots k s).1 (putV ps slots k s).2, .int .i64 (putC ps slots k s)]) ∧
      IndexAt w' b v mb (N + 1) (putL ps slots k s d) slots ∧ Upd (ixS v mb) w w' := by
  by_cases ho : k < 0 ∨ (ps.length : Int) ≤ k ∨ s < 0 ∨ (slots : Int) ≤ s
  · have e : putC ps slots k s = 10 := by unfold putC; rw [if_pos ho]
    simp only [putV, putL, e, if_neg (show ¬ (10 : Int) = 0 by decide)]
    exact (put_out h k s d ho).mono fun e w' ⟨he, hb⟩ => ⟨he, (h.below hb).mono (Nat.le_succ _), Upd.of_below hb⟩
  · obtain ⟨n, rfl⟩ : ∃ n : Nat, k = n := ⟨k.toNat, by omega⟩
    have hn : n < ps.length := by omega
    by_cases hm : mayPut ps n s
    · have e : putC ps slots n s = 0 := by
        unfold putC
        rw [if_neg ho, if_pos (by simpa [mayPut] using hm)]
      simp only [putV, putL, e, if_true, Int.toNat_natCast, getD_at hn]
      exact put_ok h n s d hn (by omega) (by omega) hm hN
    · have e : putC ps slots n s = 15 := by
        unfold putC
        rw [if_neg ho, if_neg (by simpa [mayPut] using hm)]
      simp only [putV, putL, e, if_neg (show ¬ (15 : Int) = 0 by decide)]
      exact (put_there h n s d hn (by omega) (by omega) hm).mono fun e w' ⟨he, hb⟩ => ⟨he, (h.below hb).mono (Nat.le_succ _), Upd.of_below hb⟩
theorem set_same {α : Type} {l : List α} {i : Nat} {x : α} (h : l[i]? = some x) : l.set i x = l := by
  obtain ⟨hi, rfl⟩ := List.getElem?_eq_some_iff.1 h
  exact List.set_getElem_self hi
def dropL (ps : List (Int × Bool)) (k : Int) : List (Int × Bool) := if getC ps k = 0 then ps.set k.toNat (-1, false) else ps
def cleanL (ps : List (Int × Bool)) (k : Int) : List (Int × Bool) := if getC ps k = 0 then ps.set k.toNat ((getV ps k).1, false) else ps
theorem getC_zero {ps : List (Int × Bool)} {slots : Nat} (h : Good ps slots) {k : Int} (hc : getC ps k = 0) : ∃ (n : Nat) (hn : n < ps.length), k = n ∧ 0 ≤ ps[n].1 ∧ ps[n].1 < slots ∧ getV ps k = ps[n] := by
  unfold getC at hc
  by_cases ho : k < 0 ∨ (ps.length : Int) ≤ k
  · rw [if_pos ho] at hc; cases hc
  · rw [if_neg ho] at hc
    obtain ⟨n, rfl⟩ : ∃ n : Nat, k = n := ⟨k.toNat, by omega⟩
    have hn : n < ps.length := by omega
    simp only [Int.toNat_natCast, getD_at hn] at hc
    by_cases e : ps[n] = (-1, false)
    · simp [e] at hc
    · refine ⟨n, hn, rfl, ?_, ?_, ?_⟩
      · rcases h.each n hn with e' | e'; exact absurd e' e; exact e'.1
      · rcases h.each n hn with e' | e'; exact absurd e' e; exact e'.2
      · simp only [getV, if_neg ho, Int.toNat_natCast, getD_at hn, if_neg e]
theorem getV_bad {ps : List (Int × Bool)} {k : Int} (hc : getC ps k ≠ 0) : getV ps k = (0, false) := by
  unfold getC at hc
  unfold getV
  split
  · rfl
  · rename_i h
    rw [if_neg h] at hc
    split
    · rfl
    · rename_i h2
      rw [if_neg h2] at hc
      exact absurd rfl hc
set_option maxRecDepth 100000 in
set_option maxHeartbeats 1000000 in
theorem clean_any {w : World} {b mb N : Nat} {v : Value} {ps : List (Int × Bool)} {slots : Nat} (h : IndexAt w b v mb N ps slots) (k : Int) :
    Calls Tryz.prog 147 #[.pointer (some ⟨b, 0, none⟩), .int .i64 k] w fun e w' => e = .returned (.int .i64 (getC ps k)) ∧
      IndexAt w' b v mb N (cleanL ps k) slots ∧ Upd (ixS v mb) w w' := by
  have H := Lib.hid h
  by_cases hc : getC ps k = 0
  · obtain ⟨n, hn, rfl, h0, h1, hv⟩ := getC_zero h.good hc
    have hL : Hid (cleanL ps n = ps.set n (ps[n].1, false)) := by show _ = _; simp [cleanL, hc, hv]
    have hV := Lib.hid hv
    have hle := h.le
    clear hv h
    have hC := hc
    rw [hc]
    clear hc
    go_enter Tryz.func147, Tryz.ntmps147
    go_wp2_with fail
    refine (get_any H.out n).mono ?_
    rintro e w1 ⟨rfl, hb1⟩
    have hz1 := hb1.size
    have hu1 : Upd (fun _ => False) w (w1.alloc (.cells #[.int .i64 ps[n].1, .bool ps[n].2] 108)) := (Upd.of_below hb1).alloc _
    have hI := H.out.keep hu1 (fun h => h) (fun _ _ h => h)
    have t0 := cell_of_block hI.str 0
    simp at t0
    obtain ⟨g, off, cap, cur, rfl, hg, _, hcc⟩ := hI.sl.at (by omega)
    have e1 := (cell_of_block hg (off + n * 2 + 1)).trans (hcc (n * 2 + 1) _ (plC_at hn).2)
    have f1 := frozen_of_block hg (off + n * 2 + 1)
    have hc0 : (getC ps n == 0) = true := by simpa using hC
    have HI := Lib.hid hI
    have HU := Lib.hid hu1
    rw [hC, hV.out]
    clear hg hcc hI hu1 hc0
    go_wp2
    go_ret
    have hS := HI.out.sl.setAt (n * 2 + 1) (by omega) (.bool false)
    rw [← Nat.add_assoc off] at hS
    have hus : Upd (fun j => j = g) (w1.alloc (.cells #[.int .i64 ps[n].1, .bool ps[n].2] 108)) ((w1.alloc (.cells #[.int .i64 ps[n].1, .bool ps[n].2] 108)).setCell ⟨g, off + n * 2 + 1, none⟩ (.bool false)) := upd_setCell _ _ _ _
    have hgb : g ≠ b := fun e => HI.out.ne (by rw [e]; rfl)
    have hgm : g ≠ mb := fun e => HI.out.nv (by rw [e]; rfl)
    rw [hL.out]
    refine ⟨rfl, { str := (hus.block _ HI.out.blt (fun e => hgb e.symm)).trans HI.out.str, sl := ?_, map := ?_, good := HI.out.good.clean hn h0, ne := HI.out.ne, nm := HI.out.nm, nv := HI.out.nv, le := by simpa using hle, sl1 := HI.out.sl1 }, ?_⟩
    · rw [← plC_set, List.length_set]
      have e2 : (plC ps).set (n * 2) (.int .i64 ps[n].1) = plC ps := set_same (plC_at hn).1
      rw [e2]
      simpa using hS
    · rw [HI.out.good.atOf_clean hn h0]
      exact HI.out.map.keep hus (fun e => hgm e.symm)
    · exact (HU.out.mono (fun _ _ h => h.elim)).trans (hus.mono (fun j _ e => .inl (by rw [e]; rfl)))
  · have hL : cleanL ps k = ps := by simp [cleanL, hc]
    rw [hL]
    obtain ⟨c, hcc⟩ : ∃ c, c = getC ps k := ⟨_, rfl⟩
    obtain ⟨z, hz⟩ : ∃ z, z = getV ps k := ⟨_, rfl⟩
    rw [← hcc] at hc
    rw [← hcc]
    have hc' : (c == 0) = false := by simpa using hc
    clear hL h
    have HG := Lib.hid (get_any H.out k)
    rw [← hcc, ← hz] at HG
    clear hcc hz
    go_enter Tryz.func147, Tryz.ntmps147
    go_wp2_with fail
    refine HG.out.mono ?_
    rintro e w1 ⟨rfl, hb1⟩
    go_wp2
    go_ret
    exact ⟨rfl, (H.out.below hb1).keep ((Upd.refl (fun _ => False) _).alloc _) (fun h => h) (fun _ _ h => h), (Upd.of_below hb1).alloc _⟩
end Go.Proofs.YtnadilfobmgebaaGreatDoor
