/- attach.Attach: two devices, and the steps that make a cache of them. Pages: Newest of two checkpoints, where nothing is planned. Bounds of what a checkpoint and a journal tell. attach.Entries. -/
import Derived.Test.YtfhfbpmlnjdfoaaGreatDoorA31
import Derived.Test.YtfhfbpmlnjdfoaaGreatDoorA34
import Derived.Test.YtfhfbpmlnjdfoaaGreatDoorA23
import Derived.Test.YtfhfbpmlnjdfoaaGreatDoorA27
import Derived.Test.YtfhfbpmlnjdfoaaGreatDoorA10
import Derived.Test.YtfhfbpmlnjdfoaaGreatDoorA15
import Derived.Test.YtfhfbpmlnjdfoaaGreatDoorA28
import Derived.Test.YtfhfbpmlnjdfoaaGreatDoorA09
namespace Go.Proofs.YtfhfbpmlnjdfoaaGreatDoor
open Go Go.RowKit
structure Dvs (own : Nat → Nat) (w : World) (ssd back : Nat) (F : List Bk) (O : List (Nat × Bk)) (G : List Bk) (Q : List (Nat × Bk)) (P : List Int) : Prop where
  ssd : Dv (fun j => own j = 2) w ssd F O []
  back : Dv (fun j => own j = 3) w back G Q P
  far : ∀ j, w.heap.size ≤ j → own j = 0
  nib : Nib w
  tur : Tur w
  on : own 0 = 0
  ot : own 1 = 0
section
variable {own own' : Nat → Nat} {w w' : World} {ssd back : Nat} {F G : List Bk} {O Q : List (Nat × Bk)} {P : List Int}
theorem Dvs.new (h : Dvs own w ssd back F O G Q P) (hu : Upd (fun _ => False) w w') : Dvs own w' ssd back F O G Q P :=
  ⟨h.ssd.new hu, h.back.new hu, fun j hj => h.far j (Nat.le_trans hu.size hj), h.nib.keep hu (fun h => h), h.tur.keep hu (fun h => h), h.on, h.ot⟩
theorem Dvs.didNew (h : Dvs own w ssd back F O G Q P) (hu : Upd (fun _ => False) w w') : Did own own w w' := ⟨hu.mono (fun _ _ h => h.elim), fun _ _ => rfl, fun j hj => by rw [h.far j hj]; decide, fun j hj => h.far j (Nat.le_trans hu.size hj)⟩
theorem Dvs.open2 (h : Dvs own w ssd back F O G Q P) : Dv (fun j => own j = 2 ∨ w.heap.size ≤ j) w ssd F O [] := (Dv.thing _ _ _ _).open h.ssd
theorem Dvs.on2 (h : Dvs own w ssd back F O G Q P) : ¬ (own 0 = 2 ∨ w.heap.size ≤ 0) := fun h' => by rcases h' with h' | h'; rw [h.on] at h'; exact absurd h' (by decide); exact absurd h.nib.lt (by omega)
theorem Dvs.turn2 {F' : List Bk} {O' : List (Nat × Bk)} (h : Dvs own w ssd back F O G Q P) (hu : Upd (fun j => own j = 2 ∨ w.heap.size ≤ j) w w') (hd : Dv (fun j => own j = 2 ∨ w.heap.size ≤ j) w' ssd F' O' []) : Dvs (grow own 2 w.heap.size w'.heap.size) w' ssd back F' O' G Q P where
  ssd := (Dv.thing _ _ _ _).mine hu.size hd
  back := (Dv.thing _ _ _ _).other h.back (by decide) hu
  far := (Did.step h.far (t := 2) (by decide) (by decide) hu).far
  nib := h.nib.keep hu h.on2
  tur := h.tur.keep hu (fun hs => by rcases hs with hs | hs; rw [h.ot] at hs; exact absurd hs (by decide); exact absurd h.tur.lt (by omega))
  on := (grow_old h.nib.lt).trans h.on
  ot := (grow_old h.tur.lt).trans h.ot
theorem Dvs.did2 (h : Dvs own w ssd back F O G Q P) (hu : Upd (fun j => own j = 2 ∨ w.heap.size ≤ j) w w') : Did own (grow own 2 w.heap.size w'.heap.size) w w' := Did.step h.far (by decide) (by decide) hu
theorem Did.zero {b : Nat} {o : Obj} (d : Did own own' w w') (hb : w.heap[b]? = some o) (h0 : own b = 0) : w'.heap[b]? = some o ∧ own' b = 0 :=
  ⟨(d.upd.block _ (lt_of_block hb) (fun h => h.1 h0)).trans hb, (d.old _ (lt_of_block hb)).trans h0⟩
def Kps (own : Nat → Nat) (w : World) (Fx : Nat → Option Obj) : Prop := ∀ b o, Fx b = some o → w.heap[b]? = some o ∧ own b = 0
theorem Kps.did {Fx : Nat → Option Obj} (h : Kps own w Fx) (d : Did own own' w w') : Kps own' w' Fx := fun b o hb => d.zero (h b o hb).1 (h b o hb).2
theorem Kps.aside {Fx : Nat → Option Obj} (h : Kps own w Fx) {S : Nat → Prop} (hu : Upd S w w') (hS : ∀ j, S j → Fx j = none) : Kps own w' Fx := fun b o hb =>
  ⟨(hu.block _ (lt_of_block (h b o hb).1) (fun hs => by rw [hS b hs] at hb; cases hb)).trans (h b o hb).1, (h b o hb).2⟩
theorem box_ne {b : Nat} {v : Array Value} {t : TypeId} (hn : Nib w) (ht : Tur w) (hb : w.heap[b]? = some (.cells v t (0, 0))) (h0 : own b = 0) (hp : ∀ k x, v[0]? ≠ some (.int k x)) : ∀ j, j = b → own j = 0 ∧ j ≠ 0 ∧ j ≠ 1 := by
  rintro j rfl
  refine ⟨h0, fun e => ?_, fun e => ?_⟩
  · have h2 := cell_of_block hb 0
    rw [e] at h2
    exact hp _ _ (h2.symm.trans (hn.c 0 (by decide)))
  · have h2 := cell_of_block hb 0
    rw [e] at h2
    exact hp _ _ (h2.symm.trans ht.c0)
theorem Did.mine {b : Nat} {w2 : World} (d : Did own own' w w') (hu : Upd (fun j => j = b) w' w2) (hb : w.heap.size ≤ b) : Did own own' w w2 :=
  ⟨d.upd.new hu (fun i hi e => by omega), d.old, d.new, fun j hj => d.far j (Nat.le_trans hu.size hj)⟩
theorem heap_setCell0 {b : Nat} {v u : Value} {t : TypeId} (h : w.heap[b]? = some (.cells #[v] t (0, 0))) : (w.setCell ⟨b, 0, none⟩ u).heap[b]? = some (.cells #[u] t (0, 0)) := heap_setCell_same h 0 u
end
def A2Out (own : Nat → Nat) (w : World) (ssd back s13 : Nat) (n : CaN) (a : CaS) (e : Ending) (w' : World) : Prop :=
  e = .returned (.int .i64 0) ∧ ∃ c p own' w2, CaAt own' w2 c n p a ∧ p.ssd = ssd ∧ p.back = back ∧ Did own own' w w2 ∧ w' = w2.setCell ⟨s13, 0, none⟩ (ptr c)
set_option maxRecDepth 100000 in
set_option maxHeartbeats 1000000 in
theorem att2 {own : Nat → Nat} {w : World} {ssd back s8 q qb s10 s11 s12 s13 : Nat} {n : CaN} {ao : Option Addr} {ln lc : Nat} {a : CaS} {x : Value} (wh sq : Nat)
    (hnew : Calls Tryz.prog 74 #[.agg n.C.toArray, ptr ssd, ptr back, .int .i64 (wh : Int), .int .i64 ((sq + 1 : Nat) : Int), .slice ao ln lc] w (NewOut own w ssd back n a))
    (hsq : sq < 1099511627776) (h8 : w.rangeAt s8 0 n.C) (cq : w.cell? ⟨q, 0, none⟩ = some (ptr ssd)) (cb : w.cell? ⟨qb, 0, none⟩ = some (ptr back)) (c10 : w.cell? ⟨s10, 0, none⟩ = some (.int .i64 (wh : Int)))
    (c11 : w.cell? ⟨s11, 0, none⟩ = some (.int .i64 (sq : Int))) (c12 : w.cell? ⟨s12, 0, none⟩ = some (.slice ao ln lc)) (h13 : w.heap[s13]? = some (.cells #[x] 62 (0, 0))) (o13 : own s13 = 0) :
    Calls Tryz.prog 73 #[ptr s8, ptr q, ptr qb, ptr s10, ptr s11, ptr s12, ptr s13] w (A2Out own w ssd back s13 n a) := by
  obtain ⟨U, hU⟩ : ∃ U, U = n.C := ⟨_, rfl⟩
  have hN := Lib.hid hnew
  have hsU : (Tryz.prog.info? 40).map (·.size) = some U.length := by rw [hU]; exact infoSup
  rw [← hU] at h8 hN
  rw [show ((sq + 1 : Nat) : Int) = (sq : Int) + 1 by simp] at hN
  have H := Lib.hid (And.intro h13 o13)
  clear hnew hU h13 o13
  go_enter Tryz.func73, Tryz.ntmps73
  go_wp2_with (first
    | (refine wpList_load_mid rfl _ _ rfl _ _ rfl _ _ h8 Tryz.underlying40 rfl hsU ?_)
    | fail)
  refine hN.out.mono ?_
  rintro e w2 ⟨c, p, own2, rfl, hp1, hp2, hca, hdid⟩
  have g2 := (hdid.zero H.out.1 H.out.2).1
  have k2 := cell_of_block g2 0
  have f2 := frozen_of_block g2 0
  have H2 := Lib.hid (And.intro hca (And.intro hdid (And.intro hp1 hp2)))
  clear hca hdid g2 hp1 hp2 h8 cq cb c10 c11 c12 hN
  go_wp2
  go_ret
  exact ⟨rfl, c, p, own2, w2, H2.out.1, H2.out.2.2.1, H2.out.2.2.2, H2.out.2.1, rfl⟩
def A3Out (_own : Nat → Nat) (w : World) (d s14 : Nat) (n : CaN) (e : Ending) (w' : World) : Prop :=
  e = .returned (.int .i64 0) ∧ ∃ li lc lf w2, LogI w2 li d (1 + 2 * n.pa + n.jo) n.lo 140 ∧ LogC w2 lc d (1 + 2 * n.pa + n.jo + n.lo) n.lo 144 ∧ LogF w2 lf d (1 + 2 * n.pa + n.jo + n.lo + n.lo) n.lo 148 ∧
    (w.heap.size ≤ li ∧ w.heap.size ≤ lc ∧ w.heap.size ≤ lf) ∧ Upd (fun _ => False) w w2 ∧ w' = w2.setCells s14 0 [ptr li, ptr lc, ptr lf]
theorem infoLogs : (Tryz.prog.info? 67).map (·.size) = some 3 := by kernel_rfl
set_option maxRecDepth 100000 in
set_option maxHeartbeats 1000000 in
theorem att3 {own : Nat → Nat} {w : World} {c s13 s14 : Nat} {n : CaN} {p : CaP} {a : CaS} {x y z : Value} (hca : CaAt own w c n p a) (h13 : w.cell? ⟨s13, 0, none⟩ = some (ptr c)) (h14 : w.heap[s14]? = some (.cells #[x, y, z] 67 (0, 0))) :
    Calls Tryz.prog 75 #[ptr s13, ptr s14] w (A3Out own w p.ssd s14 n) := by
  have HO := Lib.hid (lopen hca)
  have H14 := Lib.hid h14
  clear hca h14
  go_enter Tryz.func75, Tryz.ntmps75
  go_wp2_with fail
  refine HO.out.mono ?_
  rintro e w2 ⟨li, lc, lf, rfl, hi, hc, hf, hz, hb⟩
  have hu : Upd (fun _ => False) w w2 := Upd.of_below hb
  have g2 := hu.blockv H14.out
  have tA := there_of_block (n := 3) g2 (by simp)
  have HE := Lib.hid (And.intro hi (And.intro hc (And.intro hf (And.intro hz hu))))
  clear hi hc hf hz hu hb g2 h13 HO
  go_wp2_with (first
    | (refine wpList_store_mid rfl _ _ _ rfl _ _ [ptr li, ptr lc, ptr lf].toArray rfl rfl tA infoLogs (by simp [Value.oneCell']) ?_)
    | fail)
  go_ret
  exact ⟨rfl, li, lc, lf, w2, HE.out.1, HE.out.2.1, HE.out.2.2.1, HE.out.2.2.2.1, HE.out.2.2.2.2, rfl⟩
def A4Out (S : Nat → Prop) (w : World) (d s15 : Nat) (F : List Bk) (O : List (Nat × Bk)) (e : Ending) (w' : World) : Prop :=
  e = .returned (.int .i64 0) ∧ ∃ w2, Dv S w2 d F O [] ∧ Upd S w w2 ∧ w' = w2.setCell ⟨s15, 0, none⟩ (.slice none 0 0)
set_option maxRecDepth 100000 in
set_option maxHeartbeats 1000000 in
theorem att4 {S : Nat → Prop} {w : World} {li lc lf d base k s14 s15 : Nat} {F : List Bk} {O : List (Nat × Bk)} {x : Value} (h : LgsZ S w li lc lf d base k F O) (h14 : w.heap[s14]? = some (.cells #[ptr li, ptr lc, ptr lf] 67 (0, 0)))
    (h15 : w.heap[s15]? = some (.cells #[x] 68 (0, 0))) (o15 : ¬ S s15) :
    Calls Tryz.prog 77 #[ptr s14, ptr s15] w (A4Out S w d s15 F O) := by
  have HW := Lib.hid (waits_zero h)
  have r14 : w.rangeAt s14 0 [ptr li, ptr lc, ptr lf] := range_of_block h14
  have H15 := Lib.hid (And.intro h15 o15)
  clear h h14 h15 o15
  go_enter Tryz.func77, Tryz.ntmps77
  go_wp2_with (first
    | (refine wpList_load_mid rfl _ _ rfl _ _ rfl _ _ r14 Tryz.underlying67 rfl infoLogs ?_)
    | fail)
  refine HW.out.mono ?_
  rintro e w2 ⟨rfl, hd, hu⟩
  have g2 := (hu.block _ (lt_of_block H15.out.1) H15.out.2).trans H15.out.1
  have k2 := cell_of_block g2 0
  have f2 := frozen_of_block g2 0
  have HE := Lib.hid (And.intro hd hu)
  clear hd hu g2 r14 HW
  go_wp2
  go_ret
  exact ⟨rfl, w2, HE.out.1, HE.out.2, rfl⟩
set_option maxRecDepth 100000 in
theorem att5 {own : Nat → Nat} {w : World} {c s13 : Nat} {n : CaN} {p : CaP} {a' : CaS} (hck : Calls Tryz.prog 80 #[ptr c] w (CaOut own w c n p a' (.int .i64 0))) (h13 : w.cell? ⟨s13, 0, none⟩ = some (ptr c)) :
    Calls Tryz.prog 79 #[ptr s13] w (CaOut own w c n p a' (.int .i64 0)) := by
  have HO := Lib.hid hck
  clear hck
  go_enter Tryz.func79, Tryz.ntmps79
  go_wp2_with fail
  refine HO.out.mono ?_
  rintro e w2 ⟨rfl, own2, h2, d2⟩
  have H2 := Lib.hid (And.intro h2 d2)
  clear h2 d2 HO h13
  go_wp2
  go_ret
  exact ⟨rfl, own2, H2.out.1, H2.out.2⟩
set_option maxRecDepth 100000 in
theorem aidx_emp (ao : Option Addr) (lc : Nat) (f : Value) (w : World) : Calls Tryz.prog 130 #[.slice ao 0 lc, f] w fun e w' => e = .returned (.int .i64 (-1)) ∧ w' = w := by
  go_enter Tryz.func130, Tryz.ntmps130
  go_wp2_with fail
  go_loopg [8] 0 (fun gk s8 wr => s8 = .int .i64 0 ∧ wr = w)
  case atStart => exact ⟨rfl, rfl⟩
  case round =>
    obtain ⟨rfl, rfl⟩ := hrel
    go_wp2_with fail
    go_ret
    exact ⟨rfl, rfl⟩
set_option maxRecDepth 100000 in
theorem adel_emp (ao : Option Addr) (lc : Nat) (f : Value) (w : World) : Calls Tryz.prog 71 #[.slice ao 0 lc, f] w fun e w' => e = .returned (.slice ao 0 lc) ∧ w' = w := by
  go_enter Tryz.func71, Tryz.ntmps71
  go_wp2_with fail
  refine (aidx_emp ao lc f w).mono ?_
  rintro e w2 ⟨rfl, h⟩
  rw [h]
  clear h
  go_wp2
  go_ret
  exact ⟨rfl, rfl⟩
def nwS (F : List Bk) (O : List (Nat × Bk)) (base m : Nat) : Nat → Bool × Nat × Nat × List Ent
  | 0 => (false, 0, 0, [])
  | k + 1 => if readOk (secsOf F O (base + k * m) m) && (!(nwS F O base m k).1 || decide ((nwS F O base m k).2.2.1 < readSeq (secsOf F O (base + k * m) m))) then (true, k, readSeq (secsOf F O (base + k * m) m), readEs (secsOf F O (base + k * m) m)) else nwS F O base m k
theorem nwS_no {F : List Bk} {O : List (Nat × Bk)} {base m : Nat} : ∀ {k : Nat}, (nwS F O base m k).1 = false → nwS F O base m k = (false, 0, 0, [])
  | 0, _ => rfl
  | k + 1, h => by
    rw [nwS] at h ⊢
    split at h
    · cases h
    · next hc => rw [if_neg hc]; exact nwS_no h
theorem there2 {S : Nat → Prop} {w : World} {b : Nat} {F : List Bk} {O : List (Nat × Bk)} {P : List Int} (h : Dv S w b F O P) (base m : Nat) (h1 : 1 ≤ m) (h2 : base + 2 * m ≤ F.length) :
    Calls Tryz.prog 97 #[.pointer (some ⟨b, 0, none⟩), .int .i64 (base : Int), .int .i64 (m : Int), .int .i64 2] w fun e w' => e = .returned (.bool true) ∧ w = w' := by
  have hfl := h.good.fl
  have b1 : ¬ ((base : Int) > (F.length : Int)) := by omega
  have b2 : (m : Int) ≤ ((F.length : Int) - (base : Int)).tdiv 2 := by
    rw [Int.tdiv_eq_ediv_of_nonneg (by omega)]; omega
  have b3 : ¬ ((m : Int) < 1) := by omega
  have b4 : ¬ ((base : Int) < 0) := by omega
  have b5 : 0 ≤ ((F.length : Int) - (base : Int)) := by omega
  have q1 : decide ((F.length : Int) < (base : Int)) = false := by simp; omega
  go_enter Tryz.func97, Tryz.ntmps97
  go_wp2_with (first
    | (go_at_call 47; refine (dsize h).mono ?_; rintro e w' ⟨rfl, rfl⟩)
    | fail)
  go_ret
  refine ⟨?_, rfl⟩
  simp
  omega
def NwOut (S : Nat → Prop) (w : World) (b : Nat) (F : List Bk) (O : List (Nat × Bk)) (r : Bool × Nat × Nat × List Ent) (e : Ending) (w' : World) : Prop :=
  ∃ v, e = .returned (.tuple #[.int .i64 (r.2.1 : Nat), .int .i64 (r.2.2.1 : Nat), v, .int .i64 (if r.1 then 0 else 14)]) ∧ Sl w' 37 4 v r.2.2.2.length (r.2.2.2.flatMap entC) ∧ From w.heap.size v ∧ Dv (fun j => S j ∧ ∀ g, v.ownBlock = some g → g ≠ j) w' b F O [] ∧ Upd S w w'
set_option maxRecDepth 100000 in
set_option maxHeartbeats 2000000 in
theorem pnewest {S : Nat → Prop} {w : World} {b : Nat} {F : List Bk} {O : List (Nat × Bk)} (hd : Dv S w b F O []) (hn : ∀ j, w.heap.size ≤ j → S j) (base m : Nat) (hm1 : 1 ≤ m) (hbm : base + 2 * m ≤ F.length) (hN : Nib w) (hgS : ¬ S 0) :
    Calls Tryz.prog 69 #[.pointer (some ⟨b, 0, none⟩), .int .i64 (base : Int), .int .i64 (m : Int)] w (NwOut S w b F O (nwS F O base m 2)) := by
  have hfl := hd.good.fl
  have HT := Lib.hid (there2 hd base m hm1 hbm)
  have H := Lib.hid (And.intro hd (And.intro hn (And.intro hN hgS)))
  clear hd hn hN hgS
  go_enter Tryz.func69, Tryz.ntmps69
  go_wp2_with fail
  refine HT.out.mono ?_
  rintro e w' ⟨rfl, rfl⟩
  go_wp2_with fail
  go_loopg [6, 7, 8, 10, 22] 2 (fun gk s6 s7 s8 s10 s22 wr => ∃ k : Nat, ∃ f q z E, k + gk = 2 ∧ s22 = .int .i64 (k : Int) ∧ (f, q, z, E) = nwS F O base m k ∧ s10 = .bool f ∧ s6 = .int .i64 (q : Nat) ∧ s7 = .int .i64 (z : Nat) ∧ Sl wr 37 4 s8 E.length (E.flatMap entC) ∧ From w.heap.size s8 ∧ Dv (fun j => S j ∧ ∀ g, s8.ownBlock = some g → g ≠ j) wr b F O [] ∧ Upd S w wr)
  case atStart => exact ⟨0, false, 0, 0, [], by omega, rfl, rfl, rfl, rfl, rfl, Sl.nil _ _ _, From.nil _ _ _, H.out.1.shrink (fun j h1 h2 => ⟨h1, fun g hg => by cases hg⟩), Upd.refl _ _⟩
  case round =>
    obtain ⟨k, f, q, z, E, hk, rfl, hS, rfl, rfl, rfl, hsl, hfr, hd, hu⟩ := hrel
    have hnl : Nib wr := H.out.2.2.1.keep hu H.out.2.2.2
    by_cases hlt : k < 2
    · have k1 : (k : Int) < 2 := by omega
      have hkm : k * m ≤ 1 * m := Nat.mul_le_mul_right m (by omega)
      have hu8 : ∀ g, u8.ownBlock = some g → g < wr.heap.size := fun g hg => hsl.lt hg
      have HR := Lib.hid (pread (S := fun j => S j ∧ ∀ g, u8.ownBlock = some g → g ≠ j) hd (fun j hj => ⟨H.out.2.1 j (by have := hu.size; omega), fun g hg => by have := hu8 g hg; omega⟩) (base + k * m) m hm1 (by omega) hnl (fun h => H.out.2.2.2 h.1))
      rw [show ((base + k * m : Nat) : Int) = (base : Int) + (k : Int) * (m : Int) by simp] at HR
      have hS1 : nwS F O base m (k + 1) = if readOk (secsOf F O (base + k * m) m) && (!f || decide (z < readSeq (secsOf F O (base + k * m) m))) then (true, k, readSeq (secsOf F O (base + k * m) m), readEs (secsOf F O (base + k * m) m)) else (f, q, z, E) := by
        rw [nwS, ← hS]
      have HH := Lib.hid (And.intro hsl (And.intro hfr (And.intro hd (And.intro hu (And.intro hk hS1)))))
      have b1 : (0 : Int) ≤ (k : Int) * (m : Int) := by rw [← Int.natCast_mul]; omega
      have b2 : (base : Int) + (k : Int) * (m : Int) ≤ 4096 := by rw [← Int.natCast_mul]; omega
      have b3 : (k : Int) * (m : Int) ≤ 4096 := by rw [← Int.natCast_mul]; omega
      clear hsl hfr hd hu hnl hS hS1
      go_wp2_with fail
      refine HR.out.mono ?_
      rintro e w2 ⟨v2, rfl, hs2, hf2, hd2, hu2⟩
      generalize secsOf F O (base + k * m) m = l at *
      clear HR
      cases hro : readOk l with
      | false =>
        have hO := Lib.hid hro
        rw [hro] at HH hs2
        clear hro
        go_wp2_with fail
        go_roundg (gk - 1)
        case measure => have := HH.out.2.2.2.2.1; omega
        case rel =>
          obtain ⟨hsl, hfr, hd, hu, hk, hS1⟩ := HH.out
          exact ⟨k + 1, f, q, z, E, by omega, by go_num, by rw [hS1, if_neg (by simp)], rfl, rfl, rfl, hsl.keep hu2 (fun g hg h => h.2 g hg rfl), hfr, hd2.wide (fun j hj => hj.1), hu.trans (hu2.mono (fun _ _ h => h.1))⟩
      | true =>
        simp only [hro, if_true] at HH hs2 ⊢
        clear hro
        cases f with
        | false =>
          go_wp2_with fail
          go_roundg (gk - 1)
          case measure => have := HH.out.2.2.2.2.1; omega
          case rel =>
            obtain ⟨hsl, hfr, hd, hu, hk, hS1⟩ := HH.out
            exact ⟨k + 1, true, k, readSeq l, readEs l, by omega, by go_num, by rw [hS1, if_pos (by simp)], rfl, rfl, rfl, hs2, hf2.mono hu.size, hd2.wide (fun j hj => ⟨hj.1.1, hj.2⟩), hu.trans (hu2.mono (fun _ _ h => h.1))⟩
        | true =>
          by_cases hz : z < readSeq l
          · have q1 : (z : Int) < (readSeq l : Int) := by omega
            go_wp2_with fail
            go_roundg (gk - 1)
            case measure => have := HH.out.2.2.2.2.1; omega
            case rel =>
              obtain ⟨hsl, hfr, hd, hu, hk, hS1⟩ := HH.out
              exact ⟨k + 1, true, k, readSeq l, readEs l, by omega, by go_num, by rw [hS1, if_pos (by simp [hz])], rfl, rfl, rfl, hs2, hf2.mono hu.size, hd2.wide (fun j hj => ⟨hj.1.1, hj.2⟩), hu.trans (hu2.mono (fun _ _ h => h.1))⟩
          · have q1 : ¬ (z : Int) < (readSeq l : Int) := by omega
            go_wp2_with fail
            go_roundg (gk - 1)
            case measure => have := HH.out.2.2.2.2.1; omega
            case rel =>
              obtain ⟨hsl, hfr, hd, hu, hk, hS1⟩ := HH.out
              exact ⟨k + 1, true, q, z, E, by omega, by go_num, by rw [hS1, if_neg (by simp [hz])], rfl, rfl, rfl, hsl.keep hu2 (fun g hg h => h.2 g hg rfl), hfr, hd2.wide (fun j hj => hj.1), hu.trans (hu2.mono (fun _ _ h => h.1))⟩
    · obtain rfl : k = 2 := by omega
      have k1 : ¬ (((2 : Nat) : Int) < 2) := by decide
      have hz : NwOut S w b F O (f, q, z, E) (.returned (.tuple #[.int .i64 (q : Nat), .int .i64 (z : Nat), u8, .int .i64 (if f then 0 else 14)])) wr := ⟨u8, rfl, hsl, hfr, hd, hu⟩
      rw [hS] at hz
      cases f with
      | false =>
        have hq := nwS_no (by rw [← hS])
        have hz : NwOut S w b F O (nwS F O base m 2) (.returned (.tuple #[.int .i64 0, .int .i64 0, .slice none 0 0, .int .i64 14])) wr := by
          rw [hq]
          exact ⟨.slice none 0 0, rfl, Sl.nil _ _ _, From.nil _ _ _, hd.wide (fun j hj => ⟨hj.1, fun g hg => by cases hg⟩), hu⟩
        have HZ := Lib.hid hz
        clear hz hsl hfr hd hu hnl hS hq
        go_wp2_with fail
        exact bodyPost_ret (v := .tuple #[.int .i64 0, .int .i64 0, .slice none 0 0, .int .i64 14]) (by simp [results, Tryz.results69, go_sem]) rfl HZ.out
      | true =>
        have HZ := Lib.hid hz
        clear hz hsl hfr hd hu hnl hS
        go_wp2_with fail
        exact bodyPost_ret (v := .tuple #[.int .i64 (q : Nat), .int .i64 (z : Nat), u8, .int .i64 0]) (by simp [results, Tryz.results69, go_sem]) rfl HZ.out
def Ent.In (e : Ent) : Prop := e.b ≤ 4095 ∧ e.s ≤ 1023 ∧ e.m ≤ 4294967295
theorem pgEnts_bnd {b : Bk} (h : okP b = true) : ∀ e ∈ pgEnts b, e.In := by
  intro e he
  have hm := okP_may h
  obtain ⟨-, -, -, -, h4⟩ := okP_bounds h
  unfold mayP at hm
  rw [Bool.and_eq_true, Bool.and_eq_true] at hm
  obtain ⟨i, hi, rfl⟩ := List.mem_map.1 he
  have hi' := List.mem_range.1 hi
  have hb := hm.2
  unfold entsB at hb
  have := List.all_eq_true.1 hb i (List.mem_range.2 (by omega))
  unfold entB at this
  have e3 : (natsI (numsP b)).getD 3 0 = (pgMany b : Int) := natsI_getD _ _
  rw [e3, if_pos (by omega)] at this
  have hl : (natsI (numsP b)).length = 20 := by simp [natsI, numsP, numsAt_len, szP]
  have hrl : (rowI (natsI (numsP b)) i).length = 4 := rowI_len hl (by omega)
  have w0 := within_at this (i := 0) (by decide) (by omega)
  have w1 := within_at this (i := 1) (by decide) (by omega)
  have w3 := within_at this (i := 3) (by decide) (by omega)
  have e : ∀ j (hj : j < (rowI (natsI (numsP b)) i).length), (rowI (natsI (numsP b)) i)[j] = ((numsP b).getD (4 + 4 * i + j) 0 : Nat) := fun j hj => by
    rw [← natsI_getD, ← rowI_getD _ _ _ (by omega), List.getD_eq_getElem?_getD, List.getElem?_eq_getElem hj]; rfl
  rw [e] at w0 w1 w3
  simp only [bndE, List.getElem_cons_zero, List.getElem_cons_succ] at w0 w1 w3
  unfold Ent.In entAt
  dsimp only
  rw [Nat.add_zero] at w0
  omega
theorem readEs_bnd {l : List Bk} (h : readOk l = true) : (∀ e ∈ readEs l, e.In) ∧ (readEs l).length ≤ 4 * l.length ∧ readSeq l ≤ 1099511627776 := by
  unfold readOk at h
  rw [Bool.and_eq_true, Bool.and_eq_true] at h
  have hof := of_decide_eq_true h.2.1
  have hok : ∀ i < readOf l, okP (l.getD i zB) = true := fun i hi => by
    have := List.all_eq_true.1 h.2.2 i (List.mem_range.2 (by omega))
    unfold goesP at this
    rw [if_neg (by omega), Bool.and_eq_true] at this
    exact this.1
  refine ⟨fun e he => ?_, ?_, (okP_bounds h.1).1⟩
  · obtain ⟨i, hi, hie⟩ := List.mem_flatMap.1 he
    exact pgEnts_bnd (hok i (List.mem_range.1 hi)) e hie
  · have : ∀ k ≤ readOf l, (entsTo l k).length ≤ 4 * k := by
      intro k
      induction k with
      | zero => intro _; exact Nat.le_refl _
      | succ k ih =>
        intro hk
        have := ih (by omega)
        have h4 := (okP_bounds (hok k (by omega))).2.2.2.2
        unfold entsTo at this ⊢
        rw [List.range_succ, List.flatMap_append, List.length_append]
        simp only [List.flatMap_cons, List.flatMap_nil, List.append_nil, pgEnts, List.length_map, List.length_range]
        simp only [pgEnts] at this
        omega
    have := this _ (Nat.le_refl _)
    show (entsTo l (readOf l)).length ≤ _
    omega
theorem nwS_bnd (F : List Bk) (O : List (Nat × Bk)) (base m : Nat) (hl : ∀ B, (secsOf F O B m).length = m) : ∀ k, (∀ e ∈ (nwS F O base m k).2.2.2, e.In) ∧ (nwS F O base m k).2.2.2.length ≤ 4 * m ∧ (nwS F O base m k).2.2.1 ≤ 1099511627776 := by
  intro k
  induction k with
  | zero => exact ⟨fun e h => by simp [nwS] at h, by simp [nwS], by simp [nwS]⟩
  | succ k ih =>
    rw [nwS]
    split
    · rename_i h
      rw [Bool.and_eq_true] at h
      obtain ⟨h1, h2, h3⟩ := readEs_bnd h.1
      rw [hl] at h2
      exact ⟨h1, h2, h3⟩
    · exact ih
theorem scan_bnd (F : List Bk) (O : List (Nat × Bk)) (base n : Nat) : ∀ k, ∀ r ∈ scanTo F O base n k, rseq r ≤ 1099511627776 ∧ r.getD 3 0 ≤ 4095 ∧ r.getD 4 0 ≤ 1023 := by
  intro k
  induction k with
  | zero => intro r h; cases h
  | succ k ih =>
    intro r h
    rw [scanTo, List.mem_append] at h
    rcases h with h | h
    · exact ih r h
    · unfold scL at h
      split at h
      · rename_i hs
        unfold scOk at hs
        rw [Bool.and_eq_true] at hs
        have hb := okR_bounds hs.1
        rw [List.mem_singleton] at h
        subst h
        exact ⟨hb.2.1, hb.2.2.2.2.1, hb.2.2.2.2.2.1⟩
      · cases h
theorem rep_mem (L : List (List Nat)) (after : Nat) : ∀ r ∈ (repS L after).d, r ∈ L := by
  have : ∀ (L : List (List Nat)) (s : RepS), ∀ r ∈ (L.foldl repStep s).d, r ∈ L ∨ r ∈ s.d := by
    intro L
    induction L with
    | nil => intro s r h; exact .inr h
    | cons x L ih =>
      intro s r h
      rcases ih _ r h with h | h
      · exact .inl (List.mem_cons_of_mem _ h)
      · unfold repStep at h
        split at h
        · rw [List.mem_append, List.mem_singleton] at h
          rcases h with h | rfl
          · exact .inr h
          · exact .inl List.mem_cons_self
        · exact .inr h
  intro r h
  rcases this L _ r h with h | h
  · exact h
  · cases h
def Ent.toI (e : Ent) : EI := ⟨e.b, e.s, e.d, e.m⟩
theorem toI_flat (L : List Ent) : (L.map Ent.toI).flatMap EI.cs = L.flatMap entC := by
  rw [List.flatMap_map]; rfl
theorem natsI_flat (L : List (List Nat)) : (L.map natsI).flatMap dsR = L.flatMap recCs := by
  rw [List.flatMap_map]; rfl
end Go.Proofs.YtfhfbpmlnjdfoaaGreatDoor
namespace Go.Proofs.YtfhfbpmlnjdfoaaGreatDoor
open Go Go.RowKit Go.Shelf Go.Lib
def EnOut (S : Nat → Prop) (w : World) (b : Nat) (F : List Bk) (O : List (Nat × Bk)) (jo pa : Nat) (e : Ending) (w' : World) : Prop :=
  ∃ (v : Value) (L : List EI) (wh sq : Nat) (c : Int), e = .returned (.tuple #[.int .i64 (wh : Int), .int .i64 (sq : Int), v, .int .i64 c]) ∧ Sl w' 37 4 v L.length (L.flatMap EI.cs) ∧ From w.heap.size v ∧ Dv (fun j => S j ∧ ∀ g, v.ownBlock = some g → g ≠ j) w' b F O [] ∧ Upd S w w' ∧
    ((c = 14 ∧ L = [] ∧ (nwS F O 1 pa 2).1 = false) ∨
     (nwS F O 1 pa 2).1 = true ∧ ∃ R : List (List Nat), R.Perm (scanTo F O (1 + 2 * pa) jo jo) ∧ R.Pairwise (fun x y => rseq x ≤ rseq y) ∧
       ∃ r : RepS, r = repS R (nwS F O 1 pa 2).2.2.1 ∧
       ((c = 12 ∧ L = [] ∧ (¬ (((nwS F O 1 pa 2).2.2.2.map Ent.toI).map EI.b).Nodup ∨ ∃ L0, Lists (apRs (apM ((nwS F O 1 pa 2).2.2.2.map Ent.toI)) (r.d.map natsI)) L0 ∧ ¬ (L0.map EI.s).Nodup)) ∨
        (c = 0 ∧ wh = (nwS F O 1 pa 2).2.1 ∧ sq = r.g ∧ Lists (apRs (apM ((nwS F O 1 pa 2).2.2.2.map Ent.toI)) (r.d.map natsI)) L ∧ (L.map EI.s).Nodup ∧ L.Pairwise (fun x y => x.b < y.b))))
set_option maxRecDepth 100000 in
set_option maxHeartbeats 2000000 in
theorem aentries {S : Nat → Prop} {w : World} {b : Nat} {F : List Bk} {O : List (Nat × Bk)} (hd : Dv S w b F O []) (hn : ∀ j, w.heap.size ≤ j → S j) (hN : Nib w) (hgS : ¬ S 0)
    (id : Int) (bl sl jo pa lo ba : Nat) (b1 : 1 ≤ bl) (b2 : bl ≤ 4096) (s1 : 1 ≤ sl) (s2 : sl ≤ 1024) (j1 : 4 ≤ jo) (j2 : jo ≤ 1024) (l1 : 1 ≤ lo) (l2 : lo ≤ 1024) (a1 : 1 ≤ ba) (a2 : ba ≤ 64) (p1 : (sl - 1) / 4 + 1 ≤ pa) (p2 : pa ≤ 4096)
    (hz : 1 + 2 * pa + jo + lo + lo + lo + sl ≤ 4096) (hF : F.length = 1 + 2 * pa + jo + lo + lo + lo + sl) :
    Calls Tryz.prog 22 #[.agg (superC id bl sl jo pa lo ba).toArray, .pointer (some ⟨b, 0, none⟩)] w (EnOut S w b F O jo pa) := by
  obtain ⟨w1, hw1⟩ : ∃ w1, w1 = w.alloc (.cells (superC id bl sl jo pa lo ba).toArray 40) := ⟨_, rfl⟩
  have HP := Lib.hid (plan_ok id bl sl jo pa lo ba b1 b2 s1 s2 j1 j2 l1 l2 a1 a2 p1 p2 hz w1)
  have HW := Lib.hid hw1
  have H := Lib.hid (And.intro hd (And.intro hn (And.intro hN hgS)))
  clear hd hn hN hgS hw1
  go_enter Tryz.func22, Tryz.ntmps22
  go_wp2_with fail
  rw [← HW.out]
  refine HP.out.mono ?_
  rintro e w2 ⟨rfl, hb2⟩
  have hu1 : Upd (fun _ => False) w w1 := by rw [HW.out]; exact (Upd.refl _ w).alloc _
  have hu2 : Upd (fun _ => False) w w2 := hu1.trans (Upd.of_below hb2)
  have g1 : w1.heap[w.heap.size]? = some (.cells (superC id bl sl jo pa lo ba).toArray 40 (0, 0)) := by rw [HW.out]; exact heap_alloc_last w _ rfl
  obtain ⟨q, hq⟩ : ∃ q, q = w.heap.size := ⟨_, rfl⟩
  obtain ⟨w3, hw3⟩ : ∃ w3, w3 = w2.alloc (.cells (layC sl jo pa lo).toArray 43) := ⟨_, rfl⟩
  have hu3 : Upd (fun _ => False) w w3 := by rw [hw3]; exact hu2.alloc _
  have hu23 : Upd (fun _ => False) w2 w3 := by rw [hw3]; exact (Upd.refl _ w2).alloc _
  have gm : w3.heap[w2.heap.size]? = some (.cells (layC sl jo pa lo).toArray 43 (0, 0)) := by rw [hw3]; exact heap_alloc_last w2 _ rfl
  have z3 : w3.heap.size = w2.heap.size + 1 := by rw [hw3]; simp
  have gq := hu23.blockv ((Upd.of_below (S := fun _ => False) hb2).blockv g1)
  have hsz : w.heap.size < w2.heap.size := by have := hb2.size; have := lt_of_block g1; omega
  obtain ⟨m, hm⟩ : ∃ m, m = w2.heap.size := ⟨_, rfl⟩
  have dv3 : Dv (fun j => (S j ∧ j < w.heap.size) ∨ w3.heap.size ≤ j) w3 b F O [] := ((H.out.1.shrink (T := fun j => S j ∧ j < w.heap.size) (fun j h1 h2 => ⟨h1, h2⟩)).keep hu3 (fun _ _ h => h)).wide (fun j h => .inl h)
  have hN3 : Nib w3 := H.out.2.2.1.keep hu3 (fun h => h)
  have HNw := Lib.hid (pnewest dv3 (fun j hj => .inr hj) 1 pa (by omega) (by omega) hN3 (fun h => by rcases h with h | h; exact H.out.2.2.2 h.1; have := hN3.lt; omega))
  have HL := Lib.hid (And.intro hw3 (And.intro hm hq))
  rw [← hq] at gq
  rw [← hm] at gm
  have c3 : w3.cell? ⟨q, 3, none⟩ = some (.int .i64 (jo : Int)) := cell_of_block gq 3
  have c4 : w3.cell? ⟨q, 4, none⟩ = some (.int .i64 (pa : Int)) := cell_of_block gq 4
  have m0 : w3.cell? ⟨m, 0, none⟩ = some (.int .i64 1) := cell_of_block gm 0
  have m1 : w3.cell? ⟨m, 1, none⟩ = some (.int .i64 (1 + 2 * (pa : Int))) := cell_of_block gm 1
  have H3 := Lib.hid (And.intro hu3 (And.intro dv3 (And.intro hN3 (And.intro z3 (And.intro hsz (And.intro gq gm))))))
  clear hu1 hu2 hu3 hu23 g1 gm z3 gq hsz dv3 hN3 hw3 hq hm hb2
  go_wp2_with (first
    | (refine wpList_store_new rfl _ _ _ rfl _ _ (layC sl jo pa lo) rfl rfl rfl (by kernel_rfl) (fun v hv => by simp at hv; rcases hv with rfl | rfl | rfl | rfl | rfl | rfl | rfl <;> rfl) ?_; refine Stop.i ?_)
    | fail)
  rw [← HL.out.1, ← HL.out.2.1, ← HL.out.2.2]
  unfold Stop
  go_wp2_with fail
  refine HNw.out.mono ?_
  rintro e w4 ⟨v, rfl, sl4, f4, dv4, hu4⟩
  obtain ⟨nr, hnr⟩ : ∃ nr, nr = nwS F O 1 pa 2 := ⟨_, rfl⟩
  rw [← hnr] at sl4
  try rw [← hnr]
  have HNR := Lib.hid hnr
  have hbnd := nwS_bnd F O 1 pa (fun B => secsOf_len F O B pa) 2
  rw [← hnr] at hbnd
  obtain ⟨nok, nwh, nsq, nes⟩ := nr
  dsimp only at sl4 hbnd ⊢
  obtain ⟨ao4, cc4, rfl⟩ := sl4.rd.nil_iff
  have c3' := hu4.cellv c3 (fun h => by have := H3.out; have h1 := HL.out.2.2; omega)
  have m1' := hu4.cellv m1 (fun h => by have := H3.out; have h1 := HL.out.2.1; omega)
  have H4 := Lib.hid (And.intro sl4 (And.intro f4 (And.intro dv4 (And.intro hu4 hbnd))))
  clear hnr sl4 f4 dv4 hu4 hbnd c3 c4 m0 m1
  cases nok with
  | false =>
    go_wp2_with fail
    refine bodyPost_ret (v := .tuple #[.int .i64 0, .int .i64 0, .slice none 0 0, .int .i64 14]) (by simp [results, Tryz.results22, go_sem]) rfl ?_
    obtain ⟨sl4, f4, dv4, hu4, -⟩ := H4.out
    refine ⟨.slice none 0 0, [], 0, 0, 14, rfl, Sl.nil _ _ _, From.nil _ _ _, ?_, ?_, .inl ⟨rfl, rfl, by rw [← HNR.out]⟩⟩
    · refine dv4.wide (fun j h => ⟨?_, fun g hg => by cases hg⟩)
      rcases h.1 with h | h
      · exact h.1
      · have := H3.out; exact H.out.2.1 j (by omega)
    · refine H3.out.1.mono (fun _ _ h => h.elim) |>.new hu4 (fun j hj h => ?_)
      rcases h with h | h
      · exact h.1
      · have := H3.out; omega
  | true =>
    have HSc := Lib.hid (jscan H4.out.2.2.1 (fun j hj => ⟨.inr (by have := H4.out.2.2.2.1.size; omega), fun g hg e => by have := H4.out.1.lt hg; omega⟩) (1 + 2 * pa) jo (by omega) j2 (by omega) (H3.out.2.2.1.keep H4.out.2.2.2.1 (fun h => by rcases h with h | h; exact H.out.2.2.2 h.1; have := H3.out.2.2.1.lt; omega)) (fun h => by rcases h.1 with h | h; exact H.out.2.2.2 h.1; have := H3.out.2.2.1.lt; omega))
    go_wp2_with fail
    refine HSc.out.mono ?_
    rintro e w5 ⟨v5, R, rfl, hp, hs, sl5, f5, dv5, hu5⟩
    obtain ⟨ao5, cc5, rfl⟩ := sl5.rd.nil_iff
    have sl45 := H4.out.1.keep hu5 (fun g hg h => h.2 g hg rfl)
    have HRp := Lib.hid (jreplay sl5.rd nsq H4.out.2.2.2.2.2.2 (fun r hr => (scan_bnd F O (1 + 2 * pa) jo jo r (hp.mem_iff.1 hr)).1) (by rw [hp.length_eq]; exact Nat.le_trans (scanTo_le F O _ jo jo) j2))
    have H5 := Lib.hid (And.intro hp (And.intro hs (And.intro sl45 (And.intro dv5 hu5))))
    clear hp hs sl5 f5 dv5 hu5 sl45
    go_wp2_with fail
    refine HRp.out.mono ?_
    rintro e w6 ⟨v6, rfl, sl6, f6, hb6⟩
    obtain ⟨ao6, cc6, rfl⟩ := sl6.rd.nil_iff
    have hRl : R.length ≤ 1024 := by rw [H5.out.1.length_eq]; exact Nat.le_trans (scanTo_le F O _ jo jo) j2
    have hdl := (repS_le (L := R) (after := nsq) (N := 1099511627776) H4.out.2.2.2.2.2.2 (fun r hr => (scan_bnd F O (1 + 2 * pa) jo jo r (H5.out.1.mem_iff.1 hr)).1) R.length (Nat.le_refl _)).2.2
    rw [List.take_length] at hdl
    have hrm := rep_mem R nsq
    obtain ⟨r, hr⟩ : ∃ r, r = repS R nsq := ⟨_, rfl⟩
    rw [← hr] at sl6 hdl hrm
    rw [← hr]
    have sl46 := H5.out.2.2.1.keep (Upd.of_below (S := fun _ => False) hb6) (fun _ _ h => h)
    have i1 : Rd w6 4 (.slice ao4 nes.length cc4) (nes.map Ent.toI).length ((nes.map Ent.toI).flatMap EI.cs) := by
      rw [toI_flat, List.length_map]; exact sl46.rd
    have i2 : Rd w6 7 (.slice ao6 r.d.length cc6) (r.d.map natsI).length ((r.d.map natsI).flatMap dsR) := by
      rw [natsI_flat, List.length_map]; exact sl6.rd
    have HAp := Lib.hid (aapply i1 i2 (by rw [List.length_map]; have := H4.out.2.2.2.2.2.1; omega) (by rw [List.length_map]; omega)
      (fun e he => by
        obtain ⟨x, hx, rfl⟩ := List.mem_map.1 he
        have := H4.out.2.2.2.2.1 x hx
        unfold Ent.In at this
        unfold I64 Ent.toI
        dsimp only
        omega)
      (fun y hy => by
        obtain ⟨x, hx, rfl⟩ := List.mem_map.1 hy
        have := scan_bnd F O (1 + 2 * pa) jo jo x (H5.out.1.mem_iff.1 (hrm x hx))
        rw [natsI_getD, natsI_getD]
        unfold I64
        omega))
    have H6 := Lib.hid (And.intro hb6 hr)
    clear hRl hdl hrm sl46 i1 i2 sl6 f6 hb6 hr
    go_wp2_with fail
    refine HAp.out.mono ?_
    rintro e w7 ⟨v7, L, c, rfl, sl7, f7, hb7, hc⟩
    obtain ⟨ao7, cc7, rfl⟩ := sl7.rd.nil_iff
    have z5 := H4.out.2.2.2.1.size
    have z6 := H5.out.2.2.2.2.size
    have z7 := H6.out.1.size
    have hu7 : Upd (fun _ => False) w5 w7 := (Upd.of_below H6.out.1).trans (Upd.of_below hb7)
    have dv7 : Dv (fun j => S j ∧ j < w6.heap.size) w7 b F O [] := ((H5.out.2.2.2.1.shrink (T := fun j => S j ∧ j < w6.heap.size) (fun j h hj => ⟨by
        rcases h.1.1 with h | h
        · exact h.1
        · have := H3.out; exact H.out.2.1 j (by omega), by omega⟩)).new hu7)
    have hU : Upd S w w7 := by
      refine (((H3.out.1.mono (fun _ _ h => h.elim)).new H4.out.2.2.2.1 (fun j hj h => ?_)).new H5.out.2.2.2.2 (fun j hj h => ?_)).trans (hu7.mono (fun _ _ h => h.elim))
      · rcases h with h | h
        · exact h.1
        · have := H3.out; omega
      · rcases h.1 with h | h
        · exact h.1
        · have := H3.out; omega
    have H7 := Lib.hid (And.intro dv7 (And.intro hU (And.intro sl7 f7)))
    have h36 : w.heap.size ≤ w6.heap.size := by have := H3.out; omega
    have HS6 := Lib.hid h36
    clear sl7 f7 hb7 z5 z6 z7 hu7 dv7 hU h36
    rcases hc with ⟨rfl, rfl, hc⟩ | ⟨rfl, hc1, hc2, hc3, hc4⟩
    · have HC := Lib.hid hc
      clear hc
      go_wp2_with fail
      refine bodyPost_ret (v := .tuple #[.int .i64 0, .int .i64 0, .slice none 0 0, .int .i64 12]) (by simp [results, Tryz.results22, go_sem]) rfl ?_
      refine ⟨.slice none 0 0, [], 0, 0, 12, rfl, Sl.nil _ _ _, From.nil _ _ _, H7.out.1.wide (fun j h => ⟨h.1, fun g hg => by cases hg⟩), H7.out.2.1, .inr ⟨by rw [← HNR.out], R, H5.out.1, H5.out.2.1, r, by rw [← HNR.out]; exact H6.out.2, .inl ⟨rfl, rfl, by rw [← HNR.out]; exact HC.out⟩⟩⟩
    · have HC := Lib.hid (And.intro hc1 (And.intro hc2 (And.intro hc3 hc4)))
      clear hc1 hc2 hc3 hc4
      go_wp2_with fail
      refine bodyPost_ret (v := .tuple #[.int .i64 (nwh : Int), .int .i64 (r.g : Int), .slice ao7 L.length cc7, .int .i64 0]) (by simp [results, Tryz.results22, go_sem]) rfl ?_
      refine ⟨.slice ao7 L.length cc7, L, nwh, r.g, 0, rfl, H7.out.2.2.1, H7.out.2.2.2.mono HS6.out, H7.out.1.wide (fun j h => ⟨h.1, fun g hg e => by have := H7.out.2.2.2 g hg; omega⟩), H7.out.2.1, .inr ⟨by rw [← HNR.out], R, H5.out.1, H5.out.2.1, r, by rw [← HNR.out]; exact H6.out.2, .inr ⟨rfl, by rw [← HNR.out], rfl, by rw [← HNR.out]; exact HC.out.2.1, HC.out.2.2.1, HC.out.2.2.2⟩⟩⟩
end Go.Proofs.YtfhfbpmlnjdfoaaGreatDoor
