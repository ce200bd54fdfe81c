/- A new ledger. A cache that is being made: its struct, and the things that there are as yet. cache.New of no entries. A cache that is made of two new devices (lavabolaw14.Made). -/
import Derived.Test.YtnadilfobmgebaaGreatDoorH05
import Derived.Test.YtnadilfobmgebaaGreatDoorH12
import Derived.Test.YtnadilfobmgebaaGreatDoorH08
import Derived.Test.YtnadilfobmgebaaGreatDoorH14
import Derived.Test.YtnadilfobmgebaaGreatDoorH19
namespace Go.Proofs.YtnadilfobmgebaaGreatDoor
open Go Go.RowKit
theorem madeMaps (n : Nat) : madeCells #[Value.map none] (n * 1) = Array.replicate n (Value.map none) := by
  apply Array.ext
  · simp [size_madeCells]
  · intro i h1 h2
    have : i % 1 = 0 := Nat.mod_one i
    simp [madeCells, this]
theorem infoSet : (Tryz.prog.info? 291).map (fun i => (i.zero, i.size, i.bytes)) = some (some (.map none), 1, 8) := by kernel_rfl
structure LgTo (W w : World) (g n k : Nat) (M : List (Nat × (Int → Bool))) : Prop where
  sl : Sl w 291 1 (.slice (some ⟨g, 0, none⟩) n n) n (LgC M ++ List.replicate (n - k) (.map none))
  len : M.length = k
  sets : ∀ p ∈ M, SetAt w p.1 4097 p.2 ∧ p.2 = fun _ => false
  nd : (M.map (·.1)).Nodup
  lo : ∀ p ∈ M, W.heap.size + 2 ≤ p.1
set_option maxRecDepth 100000 in
theorem lnew_ok {S : Nat → Prop} (n bl : Nat) (w : World) (hn : ∀ j, w.heap.size ≤ j → S j) (h1 : 1 ≤ n) (h2 : n ≤ 1024) (h3 : 1 ≤ bl) (h4 : bl ≤ 4096) :
    Calls Tryz.prog 153 #[.int .i64 (n : Int), .int .i64 (bl : Int)] w fun e w' => ∃ b, e = .returned (.tuple #[.pointer (some ⟨b, 0, none⟩), .int .i64 0]) ∧
      Lg S w' b bl (List.replicate n (fun _ => false)) ∧ Below w.heap.size w w' ∧ w.heap.size ≤ b := by
  obtain ⟨i0, hi, hz0, hz1, hz2⟩ := info_parts infoSet
  have hmm := @run_makeMap Tryz.prog
  have hmk : ∀ w : World, (Instr.makeSlice 288 (.int .i64 n) (.int .i64 n)).run Tryz.prog w = .ok (.slice (some ⟨w.heap.size, 0, none⟩) n n) (w.alloc (.cells (Array.replicate n (Value.map none)) 291)) := by
    intro w
    have := run_make (P := Tryz.prog) w 288 291 i0 (.map none) Tryz.underlying288 hi hz0 .i64 .i64 n n (by omega) (by omega) (by rw [hz2]; omega) (by omega)
    rw [this]
    simp only [Int.toNat_natCast, hz1, Value.cells]
    rw [madeMaps]
  have q1 : decide ((n : Int) < 1) = false := by simp; omega
  have q2 : decide (1024 < (n : Int)) = false := by simp; omega
  have q3 : decide ((bl : Int) < 1) = false := by simp; omega
  have q4 : decide (4096 < (bl : Int)) = false := by simp; omega
  clear hi hz0 hz1 hz2
  go_enter Tryz.func153, Tryz.ntmps153
  go_wp2
  have ha : ((w.alloc (.cells (Array.replicate n (Value.map none)) 291)).alloc (.cells #[.int .i64 (bl : Int), .slice (some ⟨w.heap.size, 0, none⟩) n n] 290)).heap[w.heap.size]? = some (.cells (Array.replicate n (Value.map none)) 291) := by
    rw [Below.heap_alloc _ _ _ (by simp)]; exact heap_alloc_last w _ rfl
  have hb := heap_alloc_last (w.alloc (.cells (Array.replicate n (Value.map none)) 291)) (.cells #[.int .i64 (bl : Int), .slice (some ⟨w.heap.size, 0, none⟩) n n] 290) (n := w.heap.size + 1) (by simp)
  have hB := ((Below.refl w.heap.size w).alloc (Nat.le_refl _) (.cells (Array.replicate n (Value.map none)) 291)).alloc (by simp) (.cells #[.int .i64 (bl : Int), .slice (some ⟨w.heap.size, 0, none⟩) n n] 290)
  have hsz : ((w.alloc (.cells (Array.replicate n (Value.map none)) 291)).alloc (.cells #[.int .i64 (bl : Int), .slice (some ⟨w.heap.size, 0, none⟩) n n] 290)).heap.size = w.heap.size + 2 := by simp
  have hsl : Sl ((w.alloc (.cells (Array.replicate n (Value.map none)) 291)).alloc (.cells #[.int .i64 (bl : Int), .slice (some ⟨w.heap.size, 0, none⟩) n n] 290)) 291 1 (.slice (some ⟨w.heap.size, 0, none⟩) n n) n (List.replicate n (Value.map none)) :=
    ⟨by simp, .inr ⟨w.heap.size, 0, n, _, rfl, ha, Nat.le_refl _, by unfold maxLen; omega, by simp, fun j u hj => by rw [Nat.zero_add, ← List.toArray_replicate, List.getElem?_toArray]; exact hj⟩⟩
  generalize (w.alloc (.cells (Array.replicate n (Value.map none)) 291)).alloc (.cells #[.int .i64 (bl : Int), .slice (some ⟨w.heap.size, 0, none⟩) n n] 290) = w2 at *
  have HB := Lib.hid (And.intro hb (And.intro hB (And.intro hsz (And.intro hsl hn))))
  clear ha hb hB hsz hsl hn hmk
  go_loopw [32] (fun s32 wr => ∃ k : Nat, k ≤ n ∧ s32 = .int .i64 k ∧ (∃ M, LgTo w wr w.heap.size n k M) ∧ Upd (fun j => j = w.heap.size) w2 wr) (fun s32 _ => n - (intOf s32).toNat)
  case atStart => exact ⟨0, by omega, rfl, ⟨[], by simpa using HB.out.2.2.2.1, rfl, by simp, by simp, by simp⟩, Upd.refl _ _⟩
  case round =>
    obtain ⟨k, hk, rfl, ⟨M, hM⟩, hu⟩ := hrel
    have hstr := (hu.block _ (lt_of_block HB.out.1) (by omega)).trans HB.out.1
    have c1 := cell_of_block hstr 1
    simp at c1
    have hge := hu.size
    have hs2 := HB.out.2.2.1
    by_cases hlt : k < n
    · have b1 : (0 : Int) ≤ (k : Int) := by omega
      have b2 : (k : Int) < (n : Int) := by omega
      obtain ⟨g', off', cap', cur, he, hg, hoc, hcc⟩ := hM.sl.at (by omega)
      cases he
      have HM := Lib.hid (And.intro hM (And.intro hu (And.intro hstr hk)))
      have hc : (wr.alloc (.map #[] 0)).cell? ⟨w.heap.size, k, none⟩ = some (.map none) := by
        rw [cell_of_block ((Below.heap_alloc _ _ _ (lt_of_block hg)).trans hg)]
        have hl : (LgC M).length = k := by simp [LgC, hM.len]
        have := hcc k (.map none) (by rw [List.getElem?_append_right (by omega), hl, Nat.sub_self, List.getElem?_replicate, if_pos (by omega)])
        simpa using this
      have hf : (wr.alloc (.map #[] 0)).frozen? ⟨w.heap.size, k, none⟩ = false := frozen_of_block ((Below.heap_alloc _ _ _ (lt_of_block hg)).trans hg) k
      clear hM hu hstr hg hoc hcc hk
      have HX := Lib.hid (And.intro hs2 hge)
      clear hs2 hge
      go_wp2
      go_roundw
      case rel =>
        obtain ⟨hM, hu, hstr, hk⟩ := HM.out
        obtain ⟨hs2, hge⟩ := HX.out
        have hal : Upd (fun _ => False) wr (wr.alloc (.map #[] 0)) := (Upd.refl _ wr).alloc _
        have hsc : Upd (fun j => j = w.heap.size) (wr.alloc (.map #[] 0)) ((wr.alloc (.map #[] 0)).setCell ⟨w.heap.size, k, none⟩ (.map (some wr.heap.size))) := upd_setCell _ _ _ _
        refine ⟨k + 1, by omega, by go_num, ⟨M ++ [(wr.heap.size, fun _ => false)], ?_, by simp [hM.len], ?_, ?_, ?_⟩, (hu.trans (hal.mono (fun _ _ h => h.elim))).trans hsc⟩
        · have h3 := (hM.sl.keep hal (fun _ _ h => h)).setAt k (by omega) (.map (some wr.heap.size))
          rw [Nat.zero_add] at h3
          have e : (LgC M ++ List.replicate (n - k) (Value.map none)).set k (.map (some wr.heap.size)) = LgC (M ++ [(wr.heap.size, fun _ => false)]) ++ List.replicate (n - (k + 1)) (.map none) := by
            have : n - k = (n - (k + 1)) + 1 := by omega
            rw [this, List.replicate_succ, List.set_append_right _ _ (by simp [hM.len])]
            simp [hM.len, LgC]
          rw [e] at h3
          exact h3
        · intro p hp
          rcases List.mem_append.1 hp with hp | hp
          · refine ⟨((hM.sets p hp).1.keep hal (fun h => h)).keep hsc (fun e => ?_), (hM.sets p hp).2⟩
            have := hM.lo p hp; omega
          · simp at hp; subst hp
            exact ⟨((SetAt.made wr).mono (by omega)).keep hsc (fun e => by have e' : wr.heap.size = w.heap.size := e; omega), rfl⟩
        · rw [List.map_append, List.nodup_append]
          refine ⟨hM.nd, by simp, ?_⟩
          intro x hx y hy e
          simp at hy; subst hy
          obtain ⟨p, hp, rfl⟩ := List.mem_map.1 hx
          have := (hM.sets p hp).1.lt; omega
        · intro p hp
          rcases List.mem_append.1 hp with hp | hp
          · exact hM.lo p hp
          · simp at hp; subst hp; show _ ≤ wr.heap.size; omega
      case measure => simp [intOf]; omega
    · obtain rfl : k = n := by omega
      have HM := Lib.hid (And.intro hM (And.intro hu hstr))
      clear hM hu hstr hk hge hs2
      go_wp2
      go_ret2
      obtain ⟨hM, hu, hstr⟩ := HM.out
      obtain ⟨hb, hB, hsz, -, hn⟩ := HB.out
      have hMM : ∀ p ∈ M, p.1 < wr.heap.size := fun p hp => (hM.sets p hp).1.lt
      refine ⟨w.heap.size + 1, rfl, ⟨.slice (some ⟨w.heap.size, 0, none⟩) k k, M, ⟨hstr, by have := hM.sl; rw [hM.len]; simpa using this, fun p hp => (hM.sets p hp).1, hM.nd, fun p hp => ⟨?_, ?_⟩, by simp [Value.ownBlock], by rw [hM.len]; exact h2, ⟨h3, h4⟩, fun p hp s hs => ?_⟩, ?_, ?_⟩, below_upd hB hu (by omega) (fun j e => by omega), by omega⟩
      · have := hM.lo p hp; omega
      · have := hM.lo p hp; simp [Value.ownBlock]; omega
      · rw [(hM.sets p hp).2] at hs; simp at hs
      · apply List.ext_getElem (by simp [hM.len])
        intro i h1 h2
        simp only [List.getElem_map, List.getElem_replicate]
        exact (hM.sets _ (List.getElem_mem _)).2
      · rintro j (rfl | hj | hj)
        · exact hn _ (by omega)
        · simp [Value.ownBlock] at hj; exact hn _ (by omega)
        · obtain ⟨p, hp, rfl⟩ := List.mem_map.1 hj
          exact hn _ (by have := hM.lo p hp; omega)
abbrev Part := Nat × ((Nat → Prop) → World → Prop)
structure Mk (own0 : Nat → Nat) (w0 : World) (own : Nat → Nat) (w : World) (c : Nat) (cs : List Value) (bs bl : Nat) (us ul : Array Value) (L : List Part) : Prop where
  str : w.heap[c]? = some (.cells cs.toArray 187 (0, 0))
  oc : own c = 1
  cn : w0.heap.size ≤ c
  all : ∀ q ∈ L, Thing q.2 ∧ q.1 ≠ 1 ∧ q.2 (fun j => own j = q.1) w
  far : ∀ j, w.heap.size ≤ j → own j = 0
  nib : Nib w
  tur : Tur w
  on : own 0 = 0
  ot : own 1 = 0
  sb : w.heap[bs]? = some (.cells us 34 (0, 0))
  lb : w.heap[bl]? = some (.cells ul 82 (0, 0))
  bsc : bs ≠ c
  blc : bl ≠ c
  bel : Below w0.heap.size w0 w
  old : ∀ j, j < w0.heap.size → own j = own0 j
  new : ∀ j, w0.heap.size ≤ j → own j < 16
section
variable {own0 own : Nat → Nat} {w0 w w' : World} {c bs bl : Nat} {cs : List Value} {us ul : Array Value} {L : List Part}
theorem Mk.add (h : Mk own0 w0 own w c cs bs bl us ul L) (t : Nat) (ht : t ≠ 1 ∧ t < 16 ∧ ∀ q ∈ L, q.1 ≠ t) {R : (Nat → Prop) → World → Prop} (hR : Thing R) (hb : Below w.heap.size w w') (hr : R (fun j => w.heap.size ≤ j) w') :
    Mk own0 w0 (grow own t w.heap.size w'.heap.size) w' c cs bs bl us ul ((t, R) :: L) := by
  have hu : Upd (fun _ => False) w w' := Upd.of_below hb
  have hcl := lt_of_block h.str
  have ho : ∀ j, own j = t → j < w.heap.size ∨ t = 0 := fun j hj => by
    by_cases hl : j < w.heap.size
    · exact .inl hl
    · exact .inr (by rw [← hj, h.far j (by omega)])
  exact {
    str := hu.blockv h.str
    oc := (grow_old hcl).trans h.oc
    cn := h.cn
    all := fun q hq => by
      rcases List.mem_cons.1 hq with rfl | hq
      · exact ⟨hR, ht.1, hR.out hr (fun j hj hs => grow_new hs hj)⟩
      · obtain ⟨a1, a2, a3⟩ := h.all q hq
        exact ⟨a1, a2, a1.other a3 (ht.2.2 q hq) (hu.mono (fun _ _ h => h.elim))⟩
    far := fun j hj => by
      have := hu.size
      unfold grow
      rw [if_neg (by omega)]
      exact h.far j (by omega)
    nib := h.nib.keep hu (fun h => h)
    tur := h.tur.keep hu (fun h => h)
    on := (grow_old h.nib.lt).trans h.on
    ot := (grow_old h.tur.lt).trans h.ot
    sb := hu.blockv h.sb
    lb := hu.blockv h.lb
    bsc := h.bsc
    blc := h.blc
    bel := below_upd h.bel hu (Nat.le_refl _) (fun _ h => h.elim)
    old := fun j hj => (grow_old (Nat.lt_of_lt_of_le hj h.bel.size)).trans (h.old j hj)
    new := fun j hj => by
      unfold grow
      split
      · exact ht.2.1
      · exact h.new j hj }
theorem Mk.set (h : Mk own0 w0 own w c cs bs bl us ul L) (i : Nat) (v : Value) : Mk own0 w0 own (w.setCell ⟨c, i, none⟩ v) c (cs.set i v) bs bl us ul L := by
  have hu := upd_setCell w c i v
  have hne : ∀ (k j : Nat), k ≠ 1 → own j = k → ¬ j = c := fun k j hk hj e => hk (by rw [← hj, e, h.oc])
  exact {
    str := by have := heap_setCell_same h.str i v; simpa using this
    oc := h.oc
    cn := h.cn
    all := fun q hq => by
      obtain ⟨a1, a2, a3⟩ := h.all q hq
      exact ⟨a1, a2, a1.keep a3 hu (fun j hj => hne _ j a2 hj)⟩
    far := fun j hj => h.far j (by simpa using hj)
    nib := h.nib.keep hu (hne _ _ (by decide) h.on)
    tur := h.tur.keep hu (hne _ _ (by decide) h.ot)
    on := h.on
    ot := h.ot
    sb := (hu.block _ (lt_of_block h.sb) h.bsc).trans h.sb
    lb := (hu.block _ (lt_of_block h.lb) h.blc).trans h.lb
    bsc := h.bsc
    blc := h.blc
    bel := below_upd h.bel hu (Nat.le_refl _) (fun j e => e ▸ h.cn)
    old := h.old
    new := h.new }
theorem Mk.cell (h : Mk own0 w0 own w c cs bs bl us ul L) (i : Nat) : w.cell? ⟨c, i, none⟩ = cs[i]? := by rw [cell_of_block h.str]; simp
theorem Mk.part (h : Mk own0 w0 own w c cs bs bl us ul L) {t : Nat} {R : (Nat → Prop) → World → Prop} (hq : (t, R) ∈ L) : R (fun j => own j = t) w := (h.all _ hq).2.2
end
theorem Mk.start {own0 : Nat → Nat} {w0 w4 : World} {bs bl ssd back : Nat} {us ul : Array Value} {dF bF : List Bk} {dO bO : List (Nat × Bk)} {dP bP : List Int} (cs : List Value) (hU : Upd (fun _ => False) w0 w4)
    (h2 : Dv (fun j => own0 j = 2) w0 ssd dF dO dP) (h3 : Dv (fun j => own0 j = 3) w0 back bF bO bP) (far : ∀ j, w0.heap.size ≤ j → own0 j = 0) (nib : Nib w0) (tur : Tur w0) (on : own0 0 = 0) (ot : own0 1 = 0)
    (sb : w4.heap[bs]? = some (.cells us 34 (0, 0))) (lb : w4.heap[bl]? = some (.cells ul 82 (0, 0))) :
    ∃ own, Mk own0 w0 own ((w4.alloc (.map #[] 0)).alloc (.cells cs.toArray 187)) (w4.heap.size + 1) cs bs bl us ul
      [(9, fun S w => Mp S w w4.heap.size 0 (fun _ => none)), (3, fun S w => Dv S w back bF bO bP), (2, fun S w => Dv S w ssd dF dO dP)] := by
  obtain ⟨w5, hw5⟩ : ∃ w5, w5 = (w4.alloc (.map #[] 0)).alloc (.cells cs.toArray 187) := ⟨_, rfl⟩
  have hu1 : Upd (fun _ => False) w4 (w4.alloc (.map #[] 0)) := (Upd.refl _ w4).alloc _
  have hu2 : Upd (fun _ => False) (w4.alloc (.map #[] 0)) w5 := by rw [hw5]; exact (Upd.refl _ _).alloc _
  have hu := hu1.trans hu2
  have hz : w5.heap.size = w4.heap.size + 2 := by rw [hw5]; simp
  have hs := hU.size
  have hl := lt_of_block sb
  have hl2 := lt_of_block lb
  have hnl := nib.lt
  have htl := tur.lt
  have hout : ∀ (k : Nat), k ≠ 0 → ∀ (R : (Nat → Prop) → World → Prop), Thing R → R (fun j => own0 j = k) w0 → R (fun j => (if j = w4.heap.size then 9 else if j = w4.heap.size + 1 then 1 else own0 j) = k) w5 := fun k hk R hR h => by
    have h1 : R (fun j => own0 j = k ∧ j < w0.heap.size) w0 := hR.out h (fun j hj hs => ⟨hs, hj⟩)
    exact hR.out (hR.new h1 (hU.trans hu)) (fun j hj ⟨a, b⟩ => by rw [if_neg (by omega), if_neg (by omega)]; exact a)
  rw [← hw5]
  refine ⟨fun j => if j = w4.heap.size then 9 else if j = w4.heap.size + 1 then 1 else own0 j, ?_⟩
  exact {
    str := by rw [hw5]; exact heap_alloc_last _ _ (by simp)
    oc := by rw [if_neg (by omega), if_pos rfl]
    cn := by omega
    all := fun q hq => by
      simp only [List.mem_cons, List.not_mem_nil, or_false] at hq
      rcases hq with rfl | rfl | rfl
      · exact ⟨Mp.thing _ _ _, (by show (9 : Nat) ≠ 1; decide), (MapAt.made w4).keep hu2 (fun h => h), by simp⟩
      · exact ⟨Dv.thing _ _ _ _, (by show (3 : Nat) ≠ 1; decide), hout 3 (by decide) _ (Dv.thing _ _ _ _) h3⟩
      · exact ⟨Dv.thing _ _ _ _, (by show (2 : Nat) ≠ 1; decide), hout 2 (by decide) _ (Dv.thing _ _ _ _) h2⟩
    far := fun j hj => by rw [if_neg (by omega), if_neg (by omega)]; exact far j (by omega)
    nib := nib.keep (hU.trans hu) (fun h => h)
    tur := tur.keep (hU.trans hu) (fun h => h)
    on := by rw [if_neg (by omega), if_neg (by omega)]; exact on
    ot := by rw [if_neg (by omega), if_neg (by omega)]; exact ot
    sb := hu.blockv sb
    lb := hu.blockv lb
    bsc := by omega
    blc := by omega
    bel := Upd.below (hU.trans hu)
    old := fun j hj => by rw [if_neg (by omega), if_neg (by omega)]
    new := fun j hj => by
      split
      · decide
      · split
        · decide
        · rw [far j hj]; decide }
theorem inew_ix (n s : Nat) (w : World) (h1 : 1 ≤ n) (h2 : n ≤ 4096) (h3 : 1 ≤ s) (h4 : s ≤ 1024) :
    Calls Tryz.prog 151 #[.int .i64 n, .int .i64 s] w fun e w' => ∃ b, e = .returned (.tuple #[ptr b, .int .i64 0]) ∧ Ix (fun j => w.heap.size ≤ j) w' b 0 (List.replicate n (-1, false)) s ∧ Below w.heap.size w w' :=
  (inew_ok n s w h1 h2 h3 h4).mono fun _ _ ⟨b, v, mb, he, hi, hb, hm, hf, hw⟩ => ⟨b, he, ⟨v, mb, hi, hb, fun j hj => by rcases hj with hj | hj; exact hf j hj; exact hj ▸ hm⟩, hw⟩
theorem snew_ss (n : Nat) (w : World) (h1 : 1 ≤ n) (h2 : n ≤ 1024) :
    Calls Tryz.prog 152 #[.int .i64 n] w fun e w' => ∃ b, e = .returned (.tuple #[ptr b, .int .i64 0]) ∧ Ss (fun j => w.heap.size ≤ j) w' b (List.replicate n 0) ∧ Below w.heap.size w w' :=
  (snew_ok n w h1 h2).mono fun _ _ ⟨he, hs, hw, _⟩ => ⟨_, he, ⟨_, hs, by show _ ≤ _; omega, fun j hj => by simp [Value.ownBlock] at hj; show _ ≤ _; omega⟩, hw⟩
def ca0 (n : CaN) (ssd back wh sm : Nat) : List Value :=
  n.C ++ (layC n.sl n.jo n.pa n.lo ++ [ptr ssd, ptr back, .int .i64 (wh : Int), .pointer none, .pointer none, .pointer none, .pointer none, .pointer none, .map (some sm)])
theorem wpList_build_ca {ops : Array Oper} {rest : List Oper} {op : Oper} {a : Act} {w : World} {Q : Exit → Act → World → Prop} (hgd : op.guard = none) (p q r s t u : Operand) (ho : op.op = .build 187 #[(0, p), (1, q), (2, r), (3, s), (4, t), (10, u)])
    (n : CaN) (ssd back wh sm : Nat) (hp : a.eval p = .agg n.C.toArray) (hq : a.eval q = .agg (layC n.sl n.jo n.pa n.lo).toArray) (hr : a.eval r = ptr ssd) (hs : a.eval s = ptr back) (ht : a.eval t = .int .i64 (wh : Int)) (hu : a.eval u = .map (some sm)) (L : Array Value) (hL : L = (ca0 n ssd back wh sm).toArray)
    (h : wpList Tryz.prog ops Q rest (a.put op.dst (.agg L)) w) : wpList Tryz.prog ops Q (op :: rest) a w := by
  have hrun : (Instr.build 187 #[(0, .agg n.C.toArray), (1, .agg (layC n.sl n.jo n.pa n.lo).toArray), (2, ptr ssd), (3, ptr back), (4, .int .i64 (wh : Int)), (10, .map (some sm))]).run Tryz.prog w = .ok (.agg L) w := by
    rw [hL]; kernel_rfl
  refine wpList_plain hgd fun K' hK' => ?_
  unfold Oper.wp
  simp only [execOp, ho, List.map_toArray, List.map_cons, List.map_nil, hp, hq, hr, hs, ht, hu, Sem.run_bind, hrun, Result.andThen_ok]
  exact hK' _ _ h
theorem CaN.C_one (n : CaN) : ∀ v ∈ n.C, v.oneCell' = true := by
  intro v hv
  simp only [CaN.C, List.mem_cons, List.not_mem_nil, or_false] at hv
  rcases hv with rfl | rfl | rfl | rfl | rfl | rfl | rfl <;> rfl
theorem layC_mem (sl jo pa lo : Nat) : ∀ v ∈ layC sl jo pa lo, v.oneCell' = true := by
  intro v hv
  simp only [List.mem_cons, List.not_mem_nil, or_false] at hv
  rcases hv with rfl | rfl | rfl | rfl | rfl | rfl | rfl <;> rfl
def caS0 (n : CaN) (wh seq : Nat) (dF : List Bk) (dO : List (Nat × Bk)) (dP : List Int) (bF : List Bk) (bO : List (Nat × Bk)) (bP : List Int) : CaS :=
  ⟨wh, dF, dO, dP, bF, bO, bP, seq, seq + 1, [], 0, List.replicate n.bl (-1, false), List.replicate n.sl 0, List.replicate n.sl anyA, 0, [], fun _ => false, [], 0, fun _ => none⟩
def NewOut (own0 : Nat → Nat) (w : World) (ssd back : Nat) (n : CaN) (a : CaS) (e : Ending) (w' : World) : Prop :=
  ∃ c p own', e = .returned (.tuple #[ptr c, .int .i64 0]) ∧ p.ssd = ssd ∧ p.back = back ∧ CaAt own' w' c n p a ∧ Did own0 own' w w'
theorem Mk.ca {own0 own : Nat → Nat} {w0 w : World} {c bs bl ssd back sm bjr bix bss blg bck : Nat} {us ul : Array Value} {n : CaN} {wh seq : Nat} {dF bF : List Bk} {dO bO : List (Nat × Bk)} {dP bP : List Int}
    (h : Mk own0 w0 own w c ((((((ca0 n ssd back wh sm).set 17 (ptr bjr)).set 18 (ptr bix)).set 19 (ptr bss)).set 20 (ptr blg)).set 21 (ptr bck)) bs bl us ul
      [(8, fun S w => Ck S w bck 0 n.sl n.sl [] (fun _ => false) []), (7, fun S w => Lg S w blg n.bl (List.replicate n.sl (fun _ => false))), (6, fun S w => Ss S w bss (List.replicate n.sl 0)), (5, fun S w => Ix S w bix 0 (List.replicate n.bl (-1, false)) n.sl),
        (4, fun S w => Jn S w bjr ssd (1 + 2 * n.pa) n.jo seq (seq + 1) []), (9, fun S w => Mp S w sm 0 (fun _ => none)), (3, fun S w => Dv S w back bF bO bP), (2, fun S w => Dv S w ssd dF dO dP)])
    (hok : n.Ok) (fl : dF.length = n.size) (gl : bF.length = n.bl) (hwh : wh ≤ 1) :
    CaAt own w c n ⟨ssd, back, bjr, bix, bss, blg, bck, sm⟩ { caS0 n wh seq dF dO dP bF bO bP with G := List.replicate n.sl (fun _ => false) } where
  str := h.str
  oc := h.oc
  ok := hok
  ssd := h.part (t := 2) (R := fun S w => Dv S w ssd dF dO dP) (by simp)
  back := h.part (t := 3) (R := fun S w => Dv S w back bF bO bP) (by simp)
  jr := h.part (t := 4) (R := fun S w => Jn S w bjr ssd (1 + 2 * n.pa) n.jo seq (seq + 1) []) (by simp)
  ix := h.part (t := 5) (R := fun S w => Ix S w bix 0 (List.replicate n.bl (-1, false)) n.sl) (by simp)
  ss := h.part (t := 6) (R := fun S w => Ss S w bss (List.replicate n.sl 0)) (by simp)
  lg := h.part (t := 7) (R := fun S w => Lg S w blg n.bl (List.replicate n.sl (fun _ => false))) (by simp)
  ck := h.part (t := 8) (R := fun S w => Ck S w bck 0 n.sl n.sl [] (fun _ => false) []) (by simp)
  sm := h.part (t := 9) (R := fun S w => Mp S w sm 0 (fun _ => none)) (by simp)
  far := h.far
  nib := h.nib
  tur := h.tur
  on := h.on
  ot := h.ot
  fl := fl
  gl := gl
  pl := by simp [caS0]
  sl := by simp [caS0]
  Gl := by simp
  wh := hwh
set_option maxRecDepth 100000 in
set_option maxHeartbeats 2000000 in
theorem cnew {own0 : Nat → Nat} {w : World} {ssd back : Nat} {n : CaN} {dF bF : List Bk} {dO bO : List (Nat × Bk)} {dP bP : List Int} (h2 : Dv (fun j => own0 j = 2) w ssd dF dO dP) (h3 : Dv (fun j => own0 j = 3) w back bF bO bP)
    (far : ∀ j, w.heap.size ≤ j → own0 j = 0) (nib : Nib w) (tur : Tur w) (on : own0 0 = 0) (ot : own0 1 = 0) (hok : n.Ok) (fl : dF.length = n.size) (gl : bF.length = n.bl) (wh seq : Nat) (hwh : wh ≤ 1) (hseq : seq < 1099511627776) :
    Calls Tryz.prog 98 #[.agg n.C.toArray, ptr ssd, ptr back, .int .i64 (wh : Int), .int .i64 (seq : Int), .slice none 0 0] w (NewOut own0 w ssd back n (caS0 n wh seq dF dO dP bF bO bP)) := by
  obtain ⟨U, hU⟩ : ∃ U, U = n.C := ⟨_, rfl⟩
  obtain ⟨V, hV⟩ : ∃ V, V = layC n.sl n.jo n.pa n.lo := ⟨_, rfl⟩
  obtain ⟨w1, hw1⟩ : ∃ w1, w1 = w.alloc (.cells U.toArray 34) := ⟨_, rfl⟩
  have hg1 : w1.heap[w.heap.size]? = some (.cells U.toArray 34) := by rw [hw1]; exact heap_alloc_last w _ rfl
  have hu1 : Upd (fun _ => False) w w1 := by rw [hw1]; exact (Upd.refl _ w).alloc _
  have hrU : w1.rangeAt w.heap.size 0 U := range_of_block hg1
  have hsU : (Tryz.prog.info? 34).map (·.size) = some U.length := by rw [hU]; exact infoSup
  have HPl : Hid (Calls Tryz.prog 34 #[.agg U.toArray] w1 fun e w' => e = .returned (.tuple #[.agg V.toArray, .int .i64 0]) ∧ Below w1.heap.size w1 w') := by
    show Calls _ _ _ _ _
    rw [hU, hV]
    obtain ⟨b1, b2, s1, s2, j1, j2, l1, l2, a1, a2, p1, p2, z⟩ := hok
    exact plan_ok n.id n.bl n.sl n.jo n.pa n.lo n.ba b1 b2 s1 s2 j1 j2 l1 l2 a1 a2 p1 p2 z w1
  rw [← hU]
  have H := Lib.hid (And.intro h2 (And.intro h3 (And.intro far (And.intro nib (And.intro tur (And.intro on (And.intro ot (And.intro hok (And.intro fl (And.intro gl (And.intro hU (And.intro hV (And.intro hg1 hu1)))))))))))))
  rw [hw1] at hrU
  have HW1 := Lib.hid hw1
  have HU := Lib.hid (And.intro hrU hsU)
  clear h2 h3 far nib tur on ot hok fl gl hU hV hg1 hu1 hrU hsU hw1
  go_enter Tryz.func98, Tryz.ntmps98
  go_wp2_with (first
    | (refine wpList_load_mid rfl _ _ rfl _ _ rfl _ _ HU.out.1 Tryz.underlying34 rfl HU.out.2 ?_)
    | fail)
  rw [← HW1.out]
  refine HPl.out.mono ?_
  rintro e w2 ⟨rfl, hb2⟩
  obtain ⟨h2, h3, far, nib, tur, on, ot, hok, fl, gl, hU, hV, hg1, hu1⟩ := H.out
  obtain ⟨w3, hw3⟩ : ∃ w3, w3 = w2.alloc (.cells V.toArray 82) := ⟨_, rfl⟩
  have hu2 : Upd (fun _ => False) w1 w2 := Upd.of_below hb2
  have hu3 : Upd (fun _ => False) w2 w3 := by rw [hw3]; exact (Upd.refl _ w2).alloc _
  have hg3 : w3.heap[w2.heap.size]? = some (.cells V.toArray 82) := by rw [hw3]; exact heap_alloc_last w2 _ rfl
  have hg13 := (hu2.trans hu3).blockv hg1
  have hU3 := (hu1.trans hu2).trans hu3
  have hVl : V.length = 7 := by rw [hV]; rfl
  have hV1 : ∀ v ∈ V, v.oneCell' = true := by rw [hV]; exact layC_mem _ _ _ _
  have hsV : Hid ((Tryz.prog.info? 82).map (·.size) = some V.length) := by show _ = _; rw [hVl]; exact infoLay
  have h23 := (Dv.thing _ _ _ _).new h2 hU3
  have h33 := (Dv.thing _ _ _ _).new h3 hU3
  have v6 : w3.cell? ⟨w2.heap.size, 6, none⟩ = some (.int .i64 (n.size : Int)) := by
    rw [cell_of_block hg3, hV]; simp [layC, CaN.size]
  have u1 : w3.cell? ⟨w.heap.size, 1, none⟩ = some (.int .i64 (n.bl : Int)) := by
    rw [cell_of_block hg13, hU]; simp [CaN.C]
  have hS2 : ∀ k, Calls Tryz.prog 27 #[ptr ssd] (w3.drewN k) fun e w' => e = .returned (.int .i64 (n.size : Int)) ∧ w' = w3.drewN k := fun k => by
    have := dsize ((Dv.thing _ _ _ _).new h23 ((Upd.refl (fun _ => False) w3).drewN k))
    rw [fl] at this
    exact this
  have hS3 : ∀ k, Calls Tryz.prog 27 #[ptr back] (w3.drewN k) fun e w' => e = .returned (.int .i64 (n.bl : Int)) ∧ w' = w3.drewN k := fun k => by
    have := dsize ((Dv.thing _ _ _ _).new h33 ((Upd.refl (fun _ => False) w3).drewN k))
    rw [gl] at this
    exact this
  have H3 := Lib.hid (And.intro hU3 (And.intro hg3 (And.intro hg13 (And.intro h23 h33))))
  have HV := Lib.hid (And.intro hVl (And.intro hV1 (And.intro hS2 hS3)))
  clear h2 h3 far nib tur on ot hok fl gl hU hV hg1 hu1 hb2 hu2 hu3 hg3 hg13 hU3 hVl hV1 h23 h33 hS2 hS3
  have HW3 := Lib.hid hw3
  clear hw3
  have HV6 := Lib.hid (And.intro v6 u1)
  clear v6 u1
  go_wp2_with (first
    | (refine wpList_store_new rfl _ _ _ rfl _ _ _ rfl rfl (by rw [HV.out.1]; rfl) hsV.out HV.out.2.1 ?_)
    | fail)
  rw [← HW3.out]
  obtain ⟨v6, u1⟩ := HV6.out
  go_quiet ((go_at_call 27; (first | with_reducible exact Calls.quiet_of_same (HV.out.2.2.1 _) | with_reducible exact Calls.quiet_of_same (HV.out.2.2.2 _))))
  clear v6 u1
  obtain ⟨h2, h3, far, nib, tur, on, ot, hok, fl, gl, hU, hV, hg1, hu1⟩ := H.out
  obtain ⟨hU3, hg3, hg13, h23, h33⟩ := H3.out
  have hud : Upd (fun _ => False) w3 (w3.drewN nq) := (Upd.refl _ w3).drewN nq
  have hU4 := hU3.trans hud
  have hg34 := hud.blockv hg3
  have hg14 := hud.blockv hg13
  generalize w3.drewN nq = w4 at *
  obtain ⟨L, hL⟩ : ∃ L, L = ca0 n ssd back wh w4.heap.size := ⟨_, rfl⟩
  obtain ⟨ownA, MA⟩ := Mk.start L hU4 h2 h3 far nib tur on ot hg14 hg34
  have rU := range_of_block hg14
  have rV := range_of_block hg34
  have hm1 : Upd (fun _ => False) w4 (w4.alloc (.map #[] 0)) := (Upd.refl _ w4).alloc _
  have HL := Lib.hid (And.intro hL MA)
  have HR := Lib.hid (And.intro rU rV)
  have HO := Lib.hid hok
  have FL := Lib.hid fl
  have GL := Lib.hid gl
  have HUV := Lib.hid (And.intro hU hV)
  have hmm := @run_makeMap Tryz.prog
  clear h2 h3 far nib tur on ot hok fl gl hU hV hg1 hu1 hU3 hg3 hg13 h23 h33 hud hU4 hg34 hg14 rU rV hm1 MA hL
  rcases (show wh = 0 ∨ wh = 1 by omega) with rfl | rfl
  all_goals
    go_upto_region 11 with (first
      | (refine wpList_load_mid rfl _ _ rfl _ _ rfl _ _ HR.out.1 Tryz.underlying34 rfl HU.out.2 ?_)
      | (refine wpList_load_mid rfl _ _ rfl _ _ rfl _ _ HR.out.2 Tryz.underlying82 rfl hsV.out ?_)
      | (refine wpList_build_ca rfl _ _ _ _ _ _ rfl n ssd back _ w4.heap.size (by show Value.agg U.toArray = _; rw [HUV.out.1]) (by show Value.agg V.toArray = _; rw [HUV.out.2]) (by rfl) (by rfl) (by rfl) (by rfl) L.toArray (by rw [HL.out.1]) ?_)
      | fail)
    have HL5 := Lib.hid (lt_of_block HL.out.2.str)
    obtain ⟨c, hc⟩ : ∃ c, c = w4.heap.size + 1 := ⟨_, rfl⟩
    rw [← hc] at HL ⊢
    have M0 := HL.out.2
    have hL0 := HL.out.1
    generalize (w4.alloc (.map #[] 0)).alloc (.cells L.toArray 187) = W0 at *
    generalize hsm : w4.heap.size = sm at *
    clear hc HL HL5 hmm hsm HR
    subst hL0
    obtain ⟨b1, b2, s1, s2, j1, j2, l1, l2, a1, a2, p1, p2, z⟩ := HO.out
    have hq := cell_of_block M0.sb
    have hv := cell_of_block M0.lb
    rw [HUV.out.1] at hq
    rw [HUV.out.2] at hv
    have q1 : W0.cell? ⟨w.heap.size, 1, none⟩ = some (.int .i64 (n.bl : Int)) := hq 1
    have q2 : W0.cell? ⟨w.heap.size, 2, none⟩ = some (.int .i64 (n.sl : Int)) := hq 2
    have q3 : W0.cell? ⟨w.heap.size, 3, none⟩ = some (.int .i64 (n.jo : Int)) := hq 3
    have v1 : W0.cell? ⟨w2.heap.size, 1, none⟩ = some (.int .i64 (1 + 2 * (n.pa : Int))) := hv 1
    have HN := Lib.hid (jnew_any (S := fun j => W0.heap.size ≤ j) (M0.part (t := 2) (R := fun S w => Dv S w ssd dF dO dP) (by simp)) (fun _ h => h) (1 + 2 * n.pa) n.jo seq (by omega) j2 (by rw [FL.out]; unfold CaN.size; omega) hseq)
    have HM := Lib.hid M0
    clear hq hv M0
    go_wp2_with fail
    try rw [show (1 + 2 * (n.pa : Int)) = ((1 + 2 * n.pa : Nat) : Int) by simp]
    refine HN.out.mono ?_
    rintro e Wx ⟨bjr, rfl, hX, -, hb⟩
    have MX := HM.out.add 4 (by simp) (Jn.thing bjr ssd (1 + 2 * n.pa) n.jo seq (seq + 1) []) hb hX
    have k17 := MX.cell 17
    have g17 := frozen_of_block MX.str 17
    have HX := Lib.hid MX
    clear hX hb MX q1 q2 q3 v1
    go_upto_region 14 with fail
    have M1 := HX.out.set 17 (ptr bjr)
    generalize Wx.setCell ⟨c, 17, none⟩ (ptr bjr) = W1 at *
    clear HN HX k17 g17
    have hq := cell_of_block M1.sb
    have hv := cell_of_block M1.lb
    rw [HUV.out.1] at hq
    rw [HUV.out.2] at hv
    have q1 : W1.cell? ⟨w.heap.size, 1, none⟩ = some (.int .i64 (n.bl : Int)) := hq 1
    have q2 : W1.cell? ⟨w.heap.size, 2, none⟩ = some (.int .i64 (n.sl : Int)) := hq 2
    have q3 : W1.cell? ⟨w.heap.size, 3, none⟩ = some (.int .i64 (n.jo : Int)) := hq 3
    have v1 : W1.cell? ⟨w2.heap.size, 1, none⟩ = some (.int .i64 (1 + 2 * (n.pa : Int))) := hv 1
    have HN := Lib.hid (inew_ix n.bl n.sl W1 b1 b2 s1 s2)
    have HM := Lib.hid M1
    clear hq hv M1
    go_wp2_with fail
    try rw [show (1 + 2 * (n.pa : Int)) = ((1 + 2 * n.pa : Nat) : Int) by simp]
    refine HN.out.mono ?_
    rintro e Wx ⟨bix, rfl, hX, hb⟩
    have MX := HM.out.add 5 (by simp) (Ix.thing bix 0 (List.replicate n.bl (-1, false)) n.sl) hb hX
    have k18 := MX.cell 18
    have g18 := frozen_of_block MX.str 18
    have HX := Lib.hid MX
    clear hX hb MX q1 q2 q3 v1
    go_upto_region 17 with fail
    have M2 := HX.out.set 18 (ptr bix)
    generalize Wx.setCell ⟨c, 18, none⟩ (ptr bix) = W2 at *
    clear HN HX k18 g18
    have hq := cell_of_block M2.sb
    have hv := cell_of_block M2.lb
    rw [HUV.out.1] at hq
    rw [HUV.out.2] at hv
    have q1 : W2.cell? ⟨w.heap.size, 1, none⟩ = some (.int .i64 (n.bl : Int)) := hq 1
    have q2 : W2.cell? ⟨w.heap.size, 2, none⟩ = some (.int .i64 (n.sl : Int)) := hq 2
    have q3 : W2.cell? ⟨w.heap.size, 3, none⟩ = some (.int .i64 (n.jo : Int)) := hq 3
    have v1 : W2.cell? ⟨w2.heap.size, 1, none⟩ = some (.int .i64 (1 + 2 * (n.pa : Int))) := hv 1
    have HN := Lib.hid (snew_ss n.sl W2 s1 s2)
    have HM := Lib.hid M2
    clear hq hv M2
    go_wp2_with fail
    try rw [show (1 + 2 * (n.pa : Int)) = ((1 + 2 * n.pa : Nat) : Int) by simp]
    refine HN.out.mono ?_
    rintro e Wx ⟨bss, rfl, hX, hb⟩
    have MX := HM.out.add 6 (by simp) (Ss.thing bss (List.replicate n.sl 0)) hb hX
    have k19 := MX.cell 19
    have g19 := frozen_of_block MX.str 19
    have HX := Lib.hid MX
    clear hX hb MX q1 q2 q3 v1
    go_upto_region 20 with fail
    have M3 := HX.out.set 19 (ptr bss)
    generalize Wx.setCell ⟨c, 19, none⟩ (ptr bss) = W3 at *
    clear HN HX k19 g19
    have hq := cell_of_block M3.sb
    have hv := cell_of_block M3.lb
    rw [HUV.out.1] at hq
    rw [HUV.out.2] at hv
    have q1 : W3.cell? ⟨w.heap.size, 1, none⟩ = some (.int .i64 (n.bl : Int)) := hq 1
    have q2 : W3.cell? ⟨w.heap.size, 2, none⟩ = some (.int .i64 (n.sl : Int)) := hq 2
    have q3 : W3.cell? ⟨w.heap.size, 3, none⟩ = some (.int .i64 (n.jo : Int)) := hq 3
    have v1 : W3.cell? ⟨w2.heap.size, 1, none⟩ = some (.int .i64 (1 + 2 * (n.pa : Int))) := hv 1
    have HN := Lib.hid (lnew_ok (S := fun j => W3.heap.size ≤ j) n.sl n.bl W3 (fun _ h => h) s1 s2 b1 b2)
    have HM := Lib.hid M3
    clear hq hv M3
    go_wp2_with fail
    try rw [show (1 + 2 * (n.pa : Int)) = ((1 + 2 * n.pa : Nat) : Int) by simp]
    refine HN.out.mono ?_
    rintro e Wx ⟨blg, rfl, hX, hb, -⟩
    have MX := HM.out.add 7 (by simp) (Lg.thing blg n.bl (List.replicate n.sl (fun _ => false))) hb hX
    have k20 := MX.cell 20
    have g20 := frozen_of_block MX.str 20
    have HX := Lib.hid MX
    clear hX hb MX q1 q2 q3 v1
    go_upto_region 23 with fail
    have M4 := HX.out.set 20 (ptr blg)
    generalize Wx.setCell ⟨c, 20, none⟩ (ptr blg) = W4 at *
    clear HN HX k20 g20
    have hq := cell_of_block M4.sb
    have hv := cell_of_block M4.lb
    rw [HUV.out.1] at hq
    rw [HUV.out.2] at hv
    have q1 : W4.cell? ⟨w.heap.size, 1, none⟩ = some (.int .i64 (n.bl : Int)) := hq 1
    have q2 : W4.cell? ⟨w.heap.size, 2, none⟩ = some (.int .i64 (n.sl : Int)) := hq 2
    have q3 : W4.cell? ⟨w.heap.size, 3, none⟩ = some (.int .i64 (n.jo : Int)) := hq 3
    have v1 : W4.cell? ⟨w2.heap.size, 1, none⟩ = some (.int .i64 (1 + 2 * (n.pa : Int))) := hv 1
    have HN := Lib.hid (knew_ck (S := fun j => W4.heap.size ≤ j) n.sl n.sl W4 s1 s2 s2 (fun _ h => h))
    have HM := Lib.hid M4
    clear hq hv M4
    go_wp2_with fail
    try rw [show (1 + 2 * (n.pa : Int)) = ((1 + 2 * n.pa : Nat) : Int) by simp]
    refine HN.out.mono ?_
    rintro e Wx ⟨bck, rfl, hX, -, hb⟩
    have MX := HM.out.add 8 (by simp) (Ck.thing bck 0 n.sl n.sl [] (fun _ => false) []) hb hX
    have k21 := MX.cell 21
    have g21 := frozen_of_block MX.str 21
    have HX := Lib.hid MX
    clear hX hb MX q1 q2 q3 v1
    go_upto_region 26 with fail
    have M5 := HX.out.set 21 (ptr bck)
    generalize Wx.setCell ⟨c, 21, none⟩ (ptr bck) = W5 at *
    clear HN HX k21 g21
    have hca := M5.ca HO.out FL.out GL.out hwh
    have hd : Did own0 _ w W5 := ⟨(Upd.of_below M5.bel), M5.old, M5.new, M5.far⟩
    have HL := Lib.hid (load_nil hca)
    have HD := Lib.hid hd
    clear hca hd M5
    go_wp2_with fail
    refine HL.out.mono ?_
    rintro e w9 ⟨rfl, own9, hca9, hd9⟩
    have HE := Lib.hid (And.intro hca9 (HD.out.trans hd9))
    clear hca9 hd9
    go_wp2
    go_ret2
    exact ⟨c, ⟨ssd, back, bjr, bix, bss, blg, bck, sm⟩, own9, rfl, rfl, rfl, HE.out.1, HE.out.2⟩
def madeS (n : CaN) : CaS := ckpS n (caS0 n 1 0 (List.replicate n.size zB) [] [] (List.replicate n.bl zB) [] []) []
def MadeOut (w : World) (n : CaN) (e : Ending) (w' : World) : Prop :=
  ∃ c p own, e = .returned (.tuple #[ptr c, ptr p.ssd, ptr p.back]) ∧ CaAt own w' c n p (madeS n) ∧ Below w.heap.size w w' ∧ ∀ j, j < w.heap.size → own j = 0
set_option maxRecDepth 100000 in
set_option maxHeartbeats 1000000 in
theorem made_ok (n : CaN) (hok : n.Ok) (w : World) (nib : Nib w) (tur : Tur w) : Calls Tryz.prog 53 #[.agg n.C.toArray] w (MadeOut w n) := by
  obtain ⟨U, hU⟩ : ∃ U, U = n.C := ⟨_, rfl⟩
  obtain ⟨V, hV⟩ : ∃ V, V = layC n.sl n.jo n.pa n.lo := ⟨_, rfl⟩
  obtain ⟨w1, hw1⟩ : ∃ w1, w1 = w.alloc (.cells U.toArray 34) := ⟨_, rfl⟩
  have hg1 : w1.heap[w.heap.size]? = some (.cells U.toArray 34) := by rw [hw1]; exact heap_alloc_last w _ rfl
  have hu1 : Upd (fun _ => False) w w1 := by rw [hw1]; exact (Upd.refl _ w).alloc _
  have hrU : w1.rangeAt w.heap.size 0 U := range_of_block hg1
  have hsU : (Tryz.prog.info? 34).map (·.size) = some U.length := by rw [hU]; exact infoSup
  have HPl : Hid (Calls Tryz.prog 34 #[.agg U.toArray] w1 fun e w' => e = .returned (.tuple #[.agg V.toArray, .int .i64 0]) ∧ Below w1.heap.size w1 w') := by
    show Calls _ _ _ _ _
    rw [hU, hV]
    obtain ⟨b1, b2, s1, s2, j1, j2, l1, l2, a1, a2, p1, p2, z⟩ := hok
    exact plan_ok n.id n.bl n.sl n.jo n.pa n.lo n.ba b1 b2 s1 s2 j1 j2 l1 l2 a1 a2 p1 p2 z w1
  rw [← hU]
  have H := Lib.hid (And.intro nib (And.intro tur (And.intro hok (And.intro hU (And.intro hV (And.intro hg1 hu1))))))
  rw [hw1] at hrU
  have HW1 := Lib.hid hw1
  have HU := Lib.hid (And.intro hrU hsU)
  clear nib tur hok hU hV hg1 hu1 hrU hsU hw1
  go_enter Tryz.func53, Tryz.ntmps53
  go_wp2_with (first
    | (refine wpList_load_mid rfl _ _ rfl _ _ rfl _ _ HU.out.1 Tryz.underlying34 rfl HU.out.2 ?_)
    | fail)
  rw [← HW1.out]
  refine HPl.out.mono ?_
  rintro e w2 ⟨rfl, hb2⟩
  obtain ⟨nib, tur, hok, hU, hV, hg1, hu1⟩ := H.out
  obtain ⟨w3, hw3⟩ : ∃ w3, w3 = w2.alloc (.cells V.toArray 82) := ⟨_, rfl⟩
  have hu2 : Upd (fun _ => False) w1 w2 := Upd.of_below hb2
  have hu3 : Upd (fun _ => False) w2 w3 := by rw [hw3]; exact (Upd.refl _ w2).alloc _
  have hg3 : w3.heap[w2.heap.size]? = some (.cells V.toArray 82) := by rw [hw3]; exact heap_alloc_last w2 _ rfl
  have hg13 := (hu2.trans hu3).blockv hg1
  have hU3 := (hu1.trans hu2).trans hu3
  have hVl : V.length = 7 := by rw [hV]; rfl
  have hV1 : ∀ v ∈ V, v.oneCell' = true := by rw [hV]; exact layC_mem _ _ _ _
  have hsV : Hid ((Tryz.prog.info? 82).map (·.size) = some V.length) := by show _ = _; rw [hVl]; exact infoLay
  have v6 : w3.cell? ⟨w2.heap.size, 6, none⟩ = some (.int .i64 (n.size : Int)) := by
    rw [cell_of_block hg3, hV]; simp [layC, CaN.size]
  have u1 : w3.cell? ⟨w.heap.size, 1, none⟩ = some (.int .i64 (n.bl : Int)) := by
    rw [cell_of_block hg13, hU]; simp [CaN.C]
  have hz4 : n.size ≤ 4096 := hok.z
  have hz1 : 1 ≤ n.size := by unfold CaN.size; omega
  have hD1 := dnew_ok n.size hz1 hz4 w3
  have H3 := Lib.hid (And.intro hU3 (And.intro hg13 (And.intro v6 u1)))
  have HV := Lib.hid (And.intro hVl (And.intro hV1 hD1))
  have HW3 := Lib.hid hw3
  rw [hw3] at v6
  have hlt := lt_of_block hg13
  clear nib tur hok hU hV hg1 hu1 hb2 hu2 hu3 hg3 hg13 hU3 hVl hV1 u1 hD1 hw3
  go_wp2_with (first
    | (refine wpList_store_new rfl _ _ _ rfl _ _ _ rfl rfl (by rw [HV.out.1]; rfl) hsV.out HV.out.2.1 ?_)
    | fail)
  rw [← HW3.out]
  refine HV.out.2.2.mono ?_
  rintro e w4 ⟨b1, rfl, hX1, hlo1, hb4⟩
  have hu4 : Upd (fun _ => False) w3 w4 := Upd.of_below hb4
  have u1 := hu4.cellv H3.out.2.2.2 (fun h => h)
  obtain ⟨nib, tur, hok, hU, hV, hg1, hu1⟩ := H.out
  have hD2 := Lib.hid (dnew_ok n.bl hok.b1 hok.b2 w4)
  have H4 := Lib.hid (And.intro hX1 hu4)
  clear hX1 hb4 hu4 nib tur hok hU hV hg1 hu1 v6 hlt
  go_wp2_with fail
  refine hD2.out.mono ?_
  rintro e w5 ⟨b2, rfl, hX2, hlo2, hb5⟩
  have hu5 : Upd (fun _ => False) w4 w5 := Upd.of_below hb5
  obtain ⟨nib, tur, hok, hU, hV, hg1, hu1⟩ := H.out
  have hU5 := (H3.out.1.trans H4.out.2).trans hu5
  obtain ⟨own, hown⟩ : ∃ own : Nat → Nat, own = fun j => if w3.heap.size ≤ j ∧ j < w4.heap.size then 2 else if w4.heap.size ≤ j ∧ j < w5.heap.size then 3 else 0 := ⟨_, rfl⟩
  have hs3 := H3.out.1.size
  have hs4 := H4.out.2.size
  have hs5 := hu5.size
  have h2 : Dv (fun j => own j = 2) w5 b1 (List.replicate n.size zB) [] [] := by
    have a1 : Dv (fun j => w3.heap.size ≤ j ∧ j < w4.heap.size) w4 b1 (List.replicate n.size zB) [] [] := H4.out.1.out (fun j h1 h2 => ⟨h2, h1⟩)
    exact ((a1.new hu5).out (fun j _ hj => by rw [hown]; simp [hj.1, hj.2]))
  have h3 : Dv (fun j => own j = 3) w5 b2 (List.replicate n.bl zB) [] [] := hX2.out (fun j h1 h2 => by
    rw [hown]; have h2' : w4.heap.size ≤ j := h2; simp only []; rw [if_neg (by omega), if_pos ⟨h2', h1⟩])
  have hnl := nib.lt
  have htl := tur.lt
  have hC := cnew (n := n) h2 h3 (fun j hj => by rw [hown]; simp only []; rw [if_neg (by omega), if_neg (by omega)]) (nib.keep hU5 (fun h => h)) (tur.keep hU5 (fun h => h))
    (by rw [hown]; simp only []; rw [if_neg (by omega), if_neg (by omega)]) (by rw [hown]; simp only []; rw [if_neg (by omega), if_neg (by omega)]) hok (by simp) (by simp) 1 0 (by omega) (by omega)
  rw [← hU] at hC
  have hg15 := (H4.out.2.trans hu5).blockv H3.out.2.1
  have rU := range_of_block hg15
  have HC := Lib.hid hC
  have HO := Lib.hid (And.intro hown (And.intro hU5 rU))
  clear hX2 hb5 hu5 nib tur hok hU hV hg1 hu1 hU5 hown h2 h3 hC hg15 rU u1 hnl htl
  go_wp2_with (first
    | (refine wpList_load_mid rfl _ _ rfl _ _ rfl _ _ HO.out.2.2 Tryz.underlying34 rfl HU.out.2 ?_)
    | fail)
  refine HC.out.mono ?_
  rintro e w6 ⟨c, p, own6, rfl, hp1, hp2, hca, hdid⟩
  subst hp1 hp2
  have HK := Lib.hid (ckpt_empty hca rfl rfl (by simp [caS0]) rfl)
  have H6 := Lib.hid hdid
  clear hca hdid
  go_wp2_with fail
  refine HK.out.mono ?_
  rintro e w7 ⟨rfl, own7, hca7, hd7⟩
  have H7 := Lib.hid (And.intro hca7 (H6.out.trans hd7))
  clear hca7 hd7
  go_wp2
  obtain ⟨hown, hU5, -⟩ := HO.out
  obtain ⟨h7, d7⟩ := H7.out
  have h0 : ∀ j, j < w.heap.size → own j = 0 := fun j hj => by rw [hown]; simp only []; rw [if_neg (by omega), if_neg (by omega)]
  refine bodyPost_ret (v := .tuple #[ptr c, ptr p.ssd, ptr p.back]) (by simp [results, Tryz.results53, go_sem]) rfl ⟨c, p, own7, rfl, h7, ?_, fun j hj => ?_⟩
  · exact Upd.below (hU5.new d7.upd (fun i hi hs => hs.1 (h0 i hi)))
  · rw [d7.old j (by omega), h0 j hj]
end Go.Proofs.YtnadilfobmgebaaGreatDoor
