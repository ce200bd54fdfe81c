/- The clock: steps of its state; Add, Drop. The index: contracts of the code's functions. A cache in memory: a struct, and eight things that do not share a block. -/
import Derived.Test.YtfhfbpmlnjdfoaaGreatDoorA17
import Derived.Test.YtfhfbpmlnjdfoaaGreatDoorA09
import Derived.Test.YtfhfbpmlnjdfoaaGreatDoorA01
import Derived.Deep.RegionHeld3
import Derived.Test.YtfhfbpmlnjdfoaaGreatDoorA16
import Derived.Test.YtfhfbpmlnjdfoaaGreatDoorA12
import Derived.Test.YtfhfbpmlnjdfoaaGreatDoorA08
import Derived.Test.YtfhfbpmlnjdfoaaGreatDoorA04
namespace Go.Proofs.YtfhfbpmlnjdfoaaGreatDoor
open Go Go.RowKit
def Ck (S : Nat → Prop) (w : World) (b N most few : Nat) (K : List Int) (A : Int → Bool) (G : List Int) : Prop :=
  ∃ mb vk vg, CkAt w b mb N vk vg most few K A G ∧ ∀ j, ckS b mb vk vg j → S j
section
variable {S : Nat → Prop} {w w' w2 : World} {b N most few : Nat} {K G : List Int} {A : Int → Bool}
theorem Ck.keep (h : Ck S w b N most few K A G) {T : Nat → Prop} (hu : Upd T w w') (hs : ∀ j, S j → ¬ T j) : Ck S w' b N most few K A G := by
  obtain ⟨mb, vk, vg, h, hS⟩ := h
  exact ⟨mb, vk, vg, h.keep hu (fun j hj => hs j (hS j hj)), hS⟩
theorem Ck.out (h : Ck S w b N most few K A G) {S' : Nat → Prop} (hs : ∀ j, j < w.heap.size → S j → S' j) : Ck S' w b N most few K A G := by
  obtain ⟨mb, vk, vg, h, hS⟩ := h
  exact ⟨mb, vk, vg, h, fun j hj => hs j (h.slt j hj) (hS j hj)⟩
end
theorem knew_ck {S : Nat → Prop} (m f : Nat) (w : World) (h1 : 1 ≤ m) (h2 : m ≤ 1024) (h3 : f ≤ 1024) (hn : ∀ j, w.heap.size ≤ j → S j) :
    Calls Tryz.prog 135 #[.int .i64 m, .int .i64 f] w fun e w' => ∃ b, e = .returned (.tuple #[.pointer (some ⟨b, 0, none⟩), .int .i64 0]) ∧
      Ck S w' b 0 m f [] (fun _ => false) [] ∧ w.heap.size ≤ b ∧ Below w.heap.size w w' := by
  refine (knew_ok m f w h1 h2 h3).mono ?_
  rintro e w' ⟨b, mb, rfl, hc, hb, hmb, hB⟩
  refine ⟨b, rfl, ⟨mb, _, _, hc, ?_⟩, hb, hB⟩
  rintro j (rfl | rfl | hj | hj)
  · exact hn _ hb
  · exact hn _ hmb
  · cases hj
  · cases hj
abbrev placeV (s : Int) (d : Bool) : Value := .agg #[.int .i64 s, .bool d]
theorem nowhere_ok (w : World) : Calls Tryz.prog 173 #[] w fun e w' => e = .returned (placeV (-1) false) ∧ Upd (fun _ => False) w w' ∧ w'.heap.size = w.heap.size + 1 := by
  go_enter Tryz.func173, Tryz.ntmps173
  go_wp2
  have hA := heap_alloc_last w (.cells #[.int .i64 (-1), .bool false] 95) rfl
  have c0 := cell_of_block hA 0
  have c1 := cell_of_block hA 1
  simp at c0 c1
  refine bodyPost_ret (v := placeV (-1) false) ?_ rfl ⟨rfl, (Upd.refl _ _).alloc _, by simp⟩
  simp [results, Tryz.results173, go_sem]
def plC (l : List (Int × Bool)) : List Value := l.flatMap fun p => [.int .i64 p.1, .bool p.2]
theorem plC_len (l : List (Int × Bool)) : (plC l).length = l.length * 2 := length_flat (f := fun p : Int × Bool => [Value.int .i64 p.1, Value.bool p.2]) (k := 2) (fun _ => rfl) l
theorem plC_at {l : List (Int × Bool)} {k : Nat} (h : k < l.length) : (plC l)[k * 2]? = some (.int .i64 l[k].1) ∧ (plC l)[k * 2 + 1]? = some (.bool l[k].2) :=
  ⟨flat_at (f := fun p : Int × Bool => [Value.int .i64 p.1, Value.bool p.2]) (k := 2) (fun _ => rfl) l k 0 (by decide) l[k] (List.getElem?_eq_getElem h),
   flat_at (f := fun p : Int × Bool => [Value.int .i64 p.1, Value.bool p.2]) (k := 2) (fun _ => rfl) l k 1 (by decide) l[k] (List.getElem?_eq_getElem h)⟩
theorem noPl_plC (n : Nat) : noPl n = plC (List.replicate n (-1, false)) := by
  induction n with
  | zero => rfl
  | succ n ih => rw [Nat.add_comm n 1, noPl_add, ih, ← List.replicate_append_replicate]; simp [plC, noPl]
structure IndexAt (w : World) (b : Nat) (v : Value) (mb N : Nat) (ps : List (Int × Bool)) (slots : Nat) : Prop where
  str : w.heap[b]? = some (.cells #[v, .map (some mb), .int .i64 slots] 285 (0, 0))
  sl : Sl w 95 2 v ps.length (plC ps)
  map : MapAt w mb N (atOf ps)
  good : Good ps slots
  ne : v.ownBlock ≠ some b
  nm : mb ≠ b
  nv : v.ownBlock ≠ some mb
  le : ps.length ≤ 4096
  sl1 : slots ≤ 1024
def ixS (v : Value) (mb : Nat) : Nat → Prop := fun j => v.ownBlock = some j ∨ j = mb
theorem IndexAt.keep {w w' : World} {b mb N : Nat} {v : Value} {ps : List (Int × Bool)} {slots : Nat} (h : IndexAt w b v mb N ps slots) {S : Nat → Prop} (hu : Upd S w w') (hb : ¬ S b) (hs : ∀ j, ixS v mb j → ¬ S j) : IndexAt w' b v mb N ps slots :=
  { str := (hu.block _ (lt_of_block h.str) hb).trans h.str, sl := h.sl.keep hu (fun g hg => hs g (.inl hg)), map := h.map.keep hu (hs mb (.inr rfl)), good := h.good, ne := h.ne, nm := h.nm, nv := h.nv, le := h.le, sl1 := h.sl1 }
theorem IndexAt.blt {w : World} {b mb N : Nat} {v : Value} {ps : List (Int × Bool)} {slots : Nat} (h : IndexAt w b v mb N ps slots) : b < w.heap.size := lt_of_block h.str
theorem IndexAt.slt {w : World} {b mb N : Nat} {v : Value} {ps : List (Int × Bool)} {slots : Nat} (h : IndexAt w b v mb N ps slots) : ∀ j, ixS v mb j → j < w.heap.size := by
  rintro j (hj | rfl)
  · exact h.sl.lt hj
  · exact h.map.lt
set_option maxRecDepth 100000 in
theorem inew_ok (n s : Nat) (w : World) (h1 : 1 ≤ n) (h2 : n ≤ 4096) (h3 : 1 ≤ s) (h4 : s ≤ 1024) :
    Calls Tryz.prog 132 #[.int .i64 n, .int .i64 s] w fun e w' => ∃ b v mb, e = .returned (.tuple #[.pointer (some ⟨b, 0, none⟩), .int .i64 0]) ∧
      IndexAt w' b v mb 0 (List.replicate n (-1, false)) s ∧ w.heap.size ≤ b ∧ w.heap.size ≤ mb ∧ From w.heap.size v ∧ Below w.heap.size w w' := by
  have hmm := @run_makeMap Tryz.prog
  go_enter Tryz.func132, Tryz.ntmps132
  go_wp2_with fail
  refine (nowhere_ok _).mono ?_
  rintro e w1 ⟨rfl, hu1, hz1⟩
  have hx : (w1.alloc (.cells #[.int .i64 (-1), .bool false] 95)).heap[w.heap.size + 1]? = some (.cells #[.int .i64 (-1), .bool false] 95) := heap_alloc_last _ _ hz1.symm
  have HX := Lib.hid hx
  clear hx
  go_wp2_with fail
  refine (repeat_ok n (w.heap.size + 1) _ h1 h2 HX.out).mono ?_
  rintro e w2 ⟨rfl, hg2, hb2, hz2⟩
  have hz2' : w2.heap.size = w.heap.size + 3 := by rw [hz2]; simp [hz1]
  have hB2 : Below w.heap.size w w2 := (below_upd (Below.refl _ w) (hu1.alloc (.cells #[.int .i64 (-1), .bool false] 95)) (Nat.le_refl _) (fun _ h => h.elim)).trans (hb2.mono (by simp [hz1]; omega))
  have HG := Lib.hid hg2
  have HB := Lib.hid hB2
  clear hg2 hB2 hb2 hz2
  go_wp2
  go_ret2
  have hM := Upd.alloc (Upd.refl (fun _ => False) w2) (.map #[] 0)
  have hg2 : w2.heap[w.heap.size + 2]? = some (.cells (noPl n).toArray 95) := by have := HG.out; simpa [hz1] using this
  have hsl : Sl w2 95 2 (.slice (some ⟨w.heap.size + 2, 0, none⟩) n n) (List.replicate n ((-1 : Int), false)).length (plC (List.replicate n (-1, false))) := by
    rw [← noPl_plC]
    refine ⟨by rw [noPl_len]; simp, .inr ⟨w.heap.size + 2, 0, n, (noPl n).toArray, by simp, hg2, by simp, by unfold maxLen; omega, by simp [noPl_len], fun j u hj => by simpa using hj⟩⟩
  have hmap : MapAt (w2.alloc (.map #[] 0)) (w.heap.size + 3) 0 (atOf (List.replicate n (-1, false))) := by
    have := MapAt.made w2
    rw [hz2'] at this; rw [atOf_start]; exact this
  refine ⟨w.heap.size + 3 + 1, .slice (some ⟨w.heap.size + 2, 0, none⟩) n n, w.heap.size + 3, rfl, ⟨heap_alloc_last _ _ (by simp [hz2']), ?_, hmap.keep (Upd.alloc (Upd.refl (fun _ => False) _) _) (fun h => h), Good.start n s, by simp [Value.ownBlock], by omega, by simp [Value.ownBlock], by simp; omega, h4⟩, by omega, by omega, ?_, ?_⟩
  · exact hsl.keep (hM.alloc _) (fun _ _ h => h)
  · intro g hg; simp [Value.ownBlock] at hg; omega
  · exact below_upd HB.out (hM.alloc _) (Nat.le_refl _) (fun _ h => h.elim)
theorem Dv.thing (b : Nat) (F : List Bk) (O : List (Nat × Bk)) (P : List Int) : Thing (fun S w => Dv S w b F O P) where
  keep := fun h hu hs => h.keep hu hs
  out := fun h hs => h.out hs
theorem Ck.thing (b N most few : Nat) (K : List Int) (A : Int → Bool) (G : List Int) : Thing (fun S w => Ck S w b N most few K A G) where
  keep := fun h hu hs => h.keep hu hs
  out := fun h hs => h.out hs
def Ix (S : Nat → Prop) (w : World) (b N : Nat) (ps : List (Int × Bool)) (slots : Nat) : Prop := ∃ v mb, IndexAt w b v mb N ps slots ∧ S b ∧ ∀ j, ixS v mb j → S j
theorem Ix.thing (b N : Nat) (ps : List (Int × Bool)) (slots : Nat) : Thing (fun S w => Ix S w b N ps slots) where
  keep := fun ⟨v, mb, h, hb, hs⟩ hu hd => ⟨v, mb, h.keep hu (hd _ hb) (fun j hj => hd _ (hs j hj)), hb, hs⟩
  out := fun ⟨v, mb, h, hb, hs⟩ ho => ⟨v, mb, h, ho _ h.blt hb, fun j hj => ho _ (h.slt j hj) (hs j hj)⟩
def Ss (S : Nat → Prop) (w : World) (b : Nat) (l : List Int) : Prop := ∃ v, SlotsAt 327 w b v l ∧ S b ∧ ∀ j, v.ownBlock = some j → S j
theorem Ss.thing (b : Nat) (l : List Int) : Thing (fun S w => Ss S w b l) where
  keep := fun ⟨v, h, hb, hs⟩ hu hd => ⟨v, h.keep hu (hd _ hb) (fun j hj => hd _ (hs j hj)), hb, hs⟩
  out := fun ⟨v, h, hb, hs⟩ ho => ⟨v, h, ho _ (lt_of_block h.str) hb, fun j hj => ho _ (h.sl.lt hj) (hs j hj)⟩
def Mp (S : Nat → Prop) (w : World) (mb N : Nat) (f : Int → Option Nat) : Prop := MapAt w mb N f ∧ S mb
theorem Mp.thing (mb N : Nat) (f : Int → Option Nat) : Thing (fun S w => Mp S w mb N f) where
  keep := fun ⟨h, hs⟩ hu hd => ⟨h.keep hu (hd _ hs), hs⟩
  out := fun ⟨h, hs⟩ ho => ⟨h, ho _ h.lt hs⟩
structure CaN where
  id : Nat
  bl : Nat
  sl : Nat
  jo : Nat
  pa : Nat
  lo : Nat
  ba : Nat
structure CaP where
  ssd : Nat
  back : Nat
  jr : Nat
  ix : Nat
  ss : Nat
  lg : Nat
  ck : Nat
  sm : Nat
structure CaS where
  which : Nat
  dF : List Bk
  dO : List (Nat × Bk)
  dP : List Int
  bF : List Bk
  bO : List (Nat × Bk)
  bP : List Int
  cov : Nat
  next : Nat
  W : List (Nat × Bk)
  iN : Nat
  ps : List (Int × Bool)
  st : List Int
  G : List (Int → Bool)
  kN : Nat
  K : List Int
  A : Int → Bool
  H : List Int
  mN : Nat
  sums : Int → Option Nat
def CaN.size (n : CaN) : Nat := 1 + 2 * n.pa + n.jo + n.lo + n.lo + n.lo + n.sl
def CaN.C (n : CaN) : List Value := superC n.id n.bl n.sl n.jo n.pa n.lo n.ba
structure CaN.Ok (n : CaN) : Prop where
  b1 : 1 ≤ n.bl
  b2 : n.bl ≤ 4096
  s1 : 1 ≤ n.sl
  s2 : n.sl ≤ 1024
  j1 : 4 ≤ n.jo
  j2 : n.jo ≤ 1024
  l1 : 1 ≤ n.lo
  l2 : n.lo ≤ 1024
  a1 : 1 ≤ n.ba
  a2 : n.ba ≤ 64
  p1 : (n.sl - 1) / 4 + 1 ≤ n.pa
  p2 : n.pa ≤ 4096
  z : n.size ≤ 4096
abbrev ptr (b : Nat) : Value := .pointer (some ⟨b, 0, none⟩)
def caC (n : CaN) (p : CaP) (which : Nat) : List Value :=
  n.C ++ (layC n.sl n.jo n.pa n.lo ++ [ptr p.ssd, ptr p.back, .int .i64 which, ptr p.jr, ptr p.ix, ptr p.ss, ptr p.lg, ptr p.ck, .map (some p.sm)])
structure CaAt (own : Nat → Nat) (w : World) (c : Nat) (n : CaN) (p : CaP) (a : CaS) : Prop where
  str : w.heap[c]? = some (.cells (caC n p a.which).toArray 172 (0, 0))
  oc : own c = 1
  ok : n.Ok
  ssd : Dv (fun j => own j = 2) w p.ssd a.dF a.dO a.dP
  back : Dv (fun j => own j = 3) w p.back a.bF a.bO a.bP
  jr : Jn (fun j => own j = 4) w p.jr p.ssd (1 + 2 * n.pa) n.jo a.cov a.next a.W
  ix : Ix (fun j => own j = 5) w p.ix a.iN a.ps n.sl
  ss : Ss (fun j => own j = 6) w p.ss a.st
  lg : Lg (fun j => own j = 7) w p.lg n.bl a.G
  ck : Ck (fun j => own j = 8) w p.ck a.kN n.sl n.sl a.K a.A a.H
  sm : Mp (fun j => own j = 9) w p.sm a.mN a.sums
  far : ∀ j, w.heap.size ≤ j → own j = 0
  nib : Nib w
  tur : Tur w
  on : own 0 = 0
  ot : own 1 = 0
  fl : a.dF.length = n.size
  gl : a.bF.length = n.bl
  pl : a.ps.length = n.bl
  sl : a.st.length = n.sl
  Gl : a.G.length = n.sl
  wh : a.which ≤ 1
section
variable {own : Nat → Nat} {w w' : World} {c : Nat} {n : CaN} {p : CaP} {a : CaS}
theorem CaAt.clt (h : CaAt own w c n p a) : c < w.heap.size := lt_of_block h.str
theorem CaAt.new (h : CaAt own w c n p a) (hu : Upd (fun _ => False) w w') : CaAt own w' c n p a :=
  { h with
    str := (hu.block c h.clt (fun h => h)).trans h.str
    ssd := (Dv.thing _ _ _ _).new h.ssd hu
    back := (Dv.thing _ _ _ _).new h.back hu
    jr := (Jn.thing _ _ _ _ _ _ _).new h.jr hu
    ix := (Ix.thing _ _ _ _).new h.ix hu
    ss := (Ss.thing _ _).new h.ss hu
    lg := (Lg.thing _ _ _).new h.lg hu
    ck := (Ck.thing _ _ _ _ _ _ _).new h.ck hu
    sm := (Mp.thing _ _ _).new h.sm hu
    far := fun j hj => h.far j (Nat.le_trans hu.size hj)
    nib := h.nib.keep hu (fun h => h)
    tur := h.tur.keep hu (fun h => h) }
end
end Go.Proofs.YtfhfbpmlnjdfoaaGreatDoor
