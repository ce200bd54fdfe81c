/- A cache in memory: a struct, and eight things that do not share a block. What becomes of a cache where one of its things turns. What a cache's functions do to its things. Bytes of numbers: may, low, seal, Sealed. -/
import Derived.Test.YtnadilfobmgebaaGreatDoorG01
import Derived.Test.YtnadilfobmgebaaGreatDoorG04
import Derived.Test.YtnadilfobmgebaaGreatDoorG06
import Derived.Test.YtnadilfobmgebaaGreatDoorG07
import Derived.Test.YtnadilfobmgebaaGreatDoorG08
import Derived.Test.YtnadilfobmgebaaGreatDoorG09
namespace Go.Proofs.YtnadilfobmgebaaGreatDoor
open Go Go.RowKit
theorem Dv.thing (b : Nat) (F : List Bk) (O : List (Nat × Bk)) (P : List Int) : Thing (fun S w => Dv S w b F O P) where
  keep := fun h hu hs => h.keep hu hs
  out := fun h hs => h.out hs
theorem Ck.thing (b N most few : Nat) (K : List Int) (A : Int → Bool) (G : List Int) : Thing (fun S w => Ck S w b N most few K A G) where
  keep := fun h hu hs => h.keep hu hs
  out := fun h hs => h.out hs
def Ix (S : Nat → Prop) (w : World) (b N : Nat) (ps : List (Int × Bool)) (slots : Nat) : Prop := ∃ v mb, IndexAt w b v mb N ps slots ∧ S b ∧ ∀ j, ixS v mb j → S j
theorem Ix.thing (b N : Nat) (ps : List (Int × Bool)) (slots : Nat) : Thing (fun S w => Ix S w b N ps slots) where
  keep := fun ⟨v, mb, h, hb, hs⟩ hu hd => ⟨v, mb, h.keep hu (hd _ hb) (fun j hj => hd _ (hs j hj)), hb, hs⟩
  out := fun ⟨v, mb, h, hb, hs⟩ ho => ⟨v, mb, h, ho _ h.blt hb, fun j hj => ho _ (h.slt j hj) (hs j hj)⟩
def Ss (S : Nat → Prop) (w : World) (b : Nat) (l : List Int) : Prop := ∃ v, SlotsAt 285 w b v l ∧ S b ∧ ∀ j, v.ownBlock = some j → S j
theorem Ss.thing (b : Nat) (l : List Int) : Thing (fun S w => Ss S w b l) where
  keep := fun ⟨v, h, hb, hs⟩ hu hd => ⟨v, h.keep hu (hd _ hb) (fun j hj => hd _ (hs j hj)), hb, hs⟩
  out := fun ⟨v, h, hb, hs⟩ ho => ⟨v, h, ho _ (lt_of_block h.str) hb, fun j hj => ho _ (h.sl.lt hj) (hs j hj)⟩
def Mp (S : Nat → Prop) (w : World) (mb N : Nat) (f : Int → Option Nat) : Prop := MapAt w mb N f ∧ S mb
theorem Mp.thing (mb N : Nat) (f : Int → Option Nat) : Thing (fun S w => Mp S w mb N f) where
  keep := fun ⟨h, hs⟩ hu hd => ⟨h.keep hu (hd _ hs), hs⟩
  out := fun ⟨h, hs⟩ ho => ⟨h, ho _ h.lt hs⟩
structure CaN where
  id : Nat
  bl : Nat
  sl : Nat
  jo : Nat
  pa : Nat
  lo : Nat
  ba : Nat
structure CaP where
  ssd : Nat
  back : Nat
  jr : Nat
  ix : Nat
  ss : Nat
  lg : Nat
  ck : Nat
  sm : Nat
structure CaS where
  which : Nat
  dF : List Bk
  dO : List (Nat × Bk)
  dP : List Int
  bF : List Bk
  bO : List (Nat × Bk)
  bP : List Int
  cov : Nat
  next : Nat
  W : List (Nat × Bk)
  iN : Nat
  ps : List (Int × Bool)
  st : List Int
  G : List (Int → Bool)
  kN : Nat
  K : List Int
  A : Int → Bool
  H : List Int
  mN : Nat
  sums : Int → Option Nat
def CaN.size (n : CaN) : Nat := 1 + 2 * n.pa + n.jo + n.lo + n.lo + n.lo + n.sl
def CaN.C (n : CaN) : List Value := superC n.id n.bl n.sl n.jo n.pa n.lo n.ba
structure CaN.Ok (n : CaN) : Prop where
  b1 : 1 ≤ n.bl
  b2 : n.bl ≤ 4096
  s1 : 1 ≤ n.sl
  s2 : n.sl ≤ 1024
  j1 : 4 ≤ n.jo
  j2 : n.jo ≤ 1024
  l1 : 1 ≤ n.lo
  l2 : n.lo ≤ 1024
  a1 : 1 ≤ n.ba
  a2 : n.ba ≤ 64
  p1 : (n.sl - 1) / 4 + 1 ≤ n.pa
  p2 : n.pa ≤ 4096
  z : n.size ≤ 4096
abbrev ptr (b : Nat) : Value := .pointer (some ⟨b, 0, none⟩)
def caC (n : CaN) (p : CaP) (which : Nat) : List Value :=
  n.C ++ (layC n.sl n.jo n.pa n.lo ++ [ptr p.ssd, ptr p.back, .int .i64 which, ptr p.jr, ptr p.ix, ptr p.ss, ptr p.lg, ptr p.ck, .map (some p.sm)])
structure CaAt (own : Nat → Nat) (w : World) (c : Nat) (n : CaN) (p : CaP) (a : CaS) : Prop where
  str : w.heap[c]? = some (.cells (caC n p a.which).toArray 187 (0, 0))
  oc : own c = 1
  ok : n.Ok
  ssd : Dv (fun j => own j = 2) w p.ssd a.dF a.dO a.dP
  back : Dv (fun j => own j = 3) w p.back a.bF a.bO a.bP
  jr : Jn (fun j => own j = 4) w p.jr p.ssd (1 + 2 * n.pa) n.jo a.cov a.next a.W
  ix : Ix (fun j => own j = 5) w p.ix a.iN a.ps n.sl
  ss : Ss (fun j => own j = 6) w p.ss a.st
  lg : Lg (fun j => own j = 7) w p.lg n.bl a.G
  ck : Ck (fun j => own j = 8) w p.ck a.kN n.sl n.sl a.K a.A a.H
  sm : Mp (fun j => own j = 9) w p.sm a.mN a.sums
  far : ∀ j, w.heap.size ≤ j → own j = 0
  nib : Nib w
  tur : Tur w
  on : own 0 = 0
  ot : own 1 = 0
  fl : a.dF.length = n.size
  gl : a.bF.length = n.bl
  pl : a.ps.length = n.bl
  sl : a.st.length = n.sl
  Gl : a.G.length = n.sl
  wh : a.which ≤ 1
section
variable {own : Nat → Nat} {w w' : World} {c : Nat} {n : CaN} {p : CaP} {a : CaS}
theorem CaAt.clt (h : CaAt own w c n p a) : c < w.heap.size := lt_of_block h.str
theorem CaAt.new (h : CaAt own w c n p a) (hu : Upd (fun _ => False) w w') : CaAt own w' c n p a :=
  { h with
    str := (hu.block c h.clt (fun h => h)).trans h.str
    ssd := (Dv.thing _ _ _ _).new h.ssd hu
    back := (Dv.thing _ _ _ _).new h.back hu
    jr := (Jn.thing _ _ _ _ _ _ _).new h.jr hu
    ix := (Ix.thing _ _ _ _).new h.ix hu
    ss := (Ss.thing _ _).new h.ss hu
    lg := (Lg.thing _ _ _).new h.lg hu
    ck := (Ck.thing _ _ _ _ _ _ _).new h.ck hu
    sm := (Mp.thing _ _ _).new h.sm hu
    far := fun j hj => h.far j (Nat.le_trans hu.size hj)
    nib := h.nib.keep hu (fun h => h)
    tur := h.tur.keep hu (fun h => h) }
end
section
variable {own : Nat → Nat} {w w' : World} {c : Nat} {n : CaN} {p : CaP} {a : CaS}
theorem CaAt.turn2 (h : CaAt own w c n p a) {F : List Bk} {O : List (Nat × Bk)} {P : List Int} (hu : Upd (fun j => own j = 2 ∨ w.heap.size ≤ j) w w') (hd : Dv (fun j => own j = 2 ∨ w.heap.size ≤ j) w' p.ssd F O P) (hl : F.length = a.dF.length) :
    CaAt (grow own 2 w.heap.size w'.heap.size) w' c n p { a with dF := F, dO := O, dP := P } :=
  { h with
    str := (hu.block c h.clt (fun hs => by rcases hs with hs | hs; rw [h.oc] at hs; exact absurd hs (by decide); exact absurd h.clt (by omega))).trans h.str
    oc := (grow_old h.clt).trans h.oc
    ssd := (Dv.thing _ _ _ _).mine hu.size hd
    back := (Dv.thing _ _ _ _).other h.back (by decide) hu
    jr := (Jn.thing _ _ _ _ _ _ _).other h.jr (by decide) hu
    ix := (Ix.thing _ _ _ _).other h.ix (by decide) hu
    ss := (Ss.thing _ _).other h.ss (by decide) hu
    lg := (Lg.thing _ _ _).other h.lg (by decide) hu
    ck := (Ck.thing _ _ _ _ _ _ _).other h.ck (by decide) hu
    sm := (Mp.thing _ _ _).other h.sm (by decide) hu
    far := (Did.step h.far (t := 2) (by decide) (by decide) hu).far
    nib := h.nib.keep hu (fun hs => by rcases hs with hs | hs; rw [h.on] at hs; exact absurd hs (by decide); exact absurd h.nib.lt (by omega))
    tur := h.tur.keep hu (fun hs => by rcases hs with hs | hs; rw [h.ot] at hs; exact absurd hs (by decide); exact absurd h.tur.lt (by omega))
    on := (grow_old h.nib.lt).trans h.on
    ot := (grow_old h.tur.lt).trans h.ot
    fl := hl.trans h.fl
  }
theorem CaAt.did2 (h : CaAt own w c n p a) (hu : Upd (fun j => own j = 2 ∨ w.heap.size ≤ j) w w') : Did own (grow own 2 w.heap.size w'.heap.size) w w' := Did.step h.far (by decide) (by decide) hu
theorem CaAt.open2 (h : CaAt own w c n p a) : Dv (fun j => own j = 2 ∨ w.heap.size ≤ j) w p.ssd a.dF a.dO a.dP := (Dv.thing _ _ _ _).open h.ssd
theorem CaAt.turn3 (h : CaAt own w c n p a) {F : List Bk} {O : List (Nat × Bk)} {P : List Int} (hu : Upd (fun j => own j = 3 ∨ w.heap.size ≤ j) w w') (hd : Dv (fun j => own j = 3 ∨ w.heap.size ≤ j) w' p.back F O P) (hl : F.length = a.bF.length) :
    CaAt (grow own 3 w.heap.size w'.heap.size) w' c n p { a with bF := F, bO := O, bP := P } :=
  { h with
    str := (hu.block c h.clt (fun hs => by rcases hs with hs | hs; rw [h.oc] at hs; exact absurd hs (by decide); exact absurd h.clt (by omega))).trans h.str
    oc := (grow_old h.clt).trans h.oc
    ssd := (Dv.thing _ _ _ _).other h.ssd (by decide) hu
    back := (Dv.thing _ _ _ _).mine hu.size hd
    jr := (Jn.thing _ _ _ _ _ _ _).other h.jr (by decide) hu
    ix := (Ix.thing _ _ _ _).other h.ix (by decide) hu
    ss := (Ss.thing _ _).other h.ss (by decide) hu
    lg := (Lg.thing _ _ _).other h.lg (by decide) hu
    ck := (Ck.thing _ _ _ _ _ _ _).other h.ck (by decide) hu
    sm := (Mp.thing _ _ _).other h.sm (by decide) hu
    far := (Did.step h.far (t := 3) (by decide) (by decide) hu).far
    nib := h.nib.keep hu (fun hs => by rcases hs with hs | hs; rw [h.on] at hs; exact absurd hs (by decide); exact absurd h.nib.lt (by omega))
    tur := h.tur.keep hu (fun hs => by rcases hs with hs | hs; rw [h.ot] at hs; exact absurd hs (by decide); exact absurd h.tur.lt (by omega))
    on := (grow_old h.nib.lt).trans h.on
    ot := (grow_old h.tur.lt).trans h.ot
    gl := hl.trans h.gl
  }
theorem CaAt.did3 (h : CaAt own w c n p a) (hu : Upd (fun j => own j = 3 ∨ w.heap.size ≤ j) w w') : Did own (grow own 3 w.heap.size w'.heap.size) w w' := Did.step h.far (by decide) (by decide) hu
theorem CaAt.open3 (h : CaAt own w c n p a) : Dv (fun j => own j = 3 ∨ w.heap.size ≤ j) w p.back a.bF a.bO a.bP := (Dv.thing _ _ _ _).open h.back
theorem CaAt.turn4 (h : CaAt own w c n p a) {cov next : Nat} {W : List (Nat × Bk)} (hu : Upd (fun j => own j = 4 ∨ w.heap.size ≤ j) w w') (hd : Jn (fun j => own j = 4 ∨ w.heap.size ≤ j) w' p.jr p.ssd (1 + 2 * n.pa) n.jo cov next W) :
    CaAt (grow own 4 w.heap.size w'.heap.size) w' c n p { a with cov := cov, next := next, W := W } :=
  { h with
    str := (hu.block c h.clt (fun hs => by rcases hs with hs | hs; rw [h.oc] at hs; exact absurd hs (by decide); exact absurd h.clt (by omega))).trans h.str
    oc := (grow_old h.clt).trans h.oc
    ssd := (Dv.thing _ _ _ _).other h.ssd (by decide) hu
    back := (Dv.thing _ _ _ _).other h.back (by decide) hu
    jr := (Jn.thing _ _ _ _ _ _ _).mine hu.size hd
    ix := (Ix.thing _ _ _ _).other h.ix (by decide) hu
    ss := (Ss.thing _ _).other h.ss (by decide) hu
    lg := (Lg.thing _ _ _).other h.lg (by decide) hu
    ck := (Ck.thing _ _ _ _ _ _ _).other h.ck (by decide) hu
    sm := (Mp.thing _ _ _).other h.sm (by decide) hu
    far := (Did.step h.far (t := 4) (by decide) (by decide) hu).far
    nib := h.nib.keep hu (fun hs => by rcases hs with hs | hs; rw [h.on] at hs; exact absurd hs (by decide); exact absurd h.nib.lt (by omega))
    tur := h.tur.keep hu (fun hs => by rcases hs with hs | hs; rw [h.ot] at hs; exact absurd hs (by decide); exact absurd h.tur.lt (by omega))
    on := (grow_old h.nib.lt).trans h.on
    ot := (grow_old h.tur.lt).trans h.ot
  }
theorem CaAt.did4 (h : CaAt own w c n p a) (hu : Upd (fun j => own j = 4 ∨ w.heap.size ≤ j) w w') : Did own (grow own 4 w.heap.size w'.heap.size) w w' := Did.step h.far (by decide) (by decide) hu
theorem CaAt.open4 (h : CaAt own w c n p a) : Jn (fun j => own j = 4 ∨ w.heap.size ≤ j) w p.jr p.ssd (1 + 2 * n.pa) n.jo a.cov a.next a.W := (Jn.thing _ _ _ _ _ _ _).open h.jr
theorem CaAt.turn6 (h : CaAt own w c n p a) {l : List Int} (hu : Upd (fun j => own j = 6 ∨ w.heap.size ≤ j) w w') (hd : Ss (fun j => own j = 6 ∨ w.heap.size ≤ j) w' p.ss l) (hl : l.length = a.st.length) :
    CaAt (grow own 6 w.heap.size w'.heap.size) w' c n p { a with st := l } :=
  { h with
    str := (hu.block c h.clt (fun hs => by rcases hs with hs | hs; rw [h.oc] at hs; exact absurd hs (by decide); exact absurd h.clt (by omega))).trans h.str
    oc := (grow_old h.clt).trans h.oc
    ssd := (Dv.thing _ _ _ _).other h.ssd (by decide) hu
    back := (Dv.thing _ _ _ _).other h.back (by decide) hu
    jr := (Jn.thing _ _ _ _ _ _ _).other h.jr (by decide) hu
    ix := (Ix.thing _ _ _ _).other h.ix (by decide) hu
    ss := (Ss.thing _ _).mine hu.size hd
    lg := (Lg.thing _ _ _).other h.lg (by decide) hu
    ck := (Ck.thing _ _ _ _ _ _ _).other h.ck (by decide) hu
    sm := (Mp.thing _ _ _).other h.sm (by decide) hu
    far := (Did.step h.far (t := 6) (by decide) (by decide) hu).far
    nib := h.nib.keep hu (fun hs => by rcases hs with hs | hs; rw [h.on] at hs; exact absurd hs (by decide); exact absurd h.nib.lt (by omega))
    tur := h.tur.keep hu (fun hs => by rcases hs with hs | hs; rw [h.ot] at hs; exact absurd hs (by decide); exact absurd h.tur.lt (by omega))
    on := (grow_old h.nib.lt).trans h.on
    ot := (grow_old h.tur.lt).trans h.ot
    sl := hl.trans h.sl
  }
theorem CaAt.did6 (h : CaAt own w c n p a) (hu : Upd (fun j => own j = 6 ∨ w.heap.size ≤ j) w w') : Did own (grow own 6 w.heap.size w'.heap.size) w w' := Did.step h.far (by decide) (by decide) hu
theorem CaAt.turn7 (h : CaAt own w c n p a) {G : List (Int → Bool)} (hu : Upd (fun j => own j = 7 ∨ w.heap.size ≤ j) w w') (hd : Lg (fun j => own j = 7 ∨ w.heap.size ≤ j) w' p.lg n.bl G) (hl : G.length = a.G.length) :
    CaAt (grow own 7 w.heap.size w'.heap.size) w' c n p { a with G := G } :=
  { h with
    str := (hu.block c h.clt (fun hs => by rcases hs with hs | hs; rw [h.oc] at hs; exact absurd hs (by decide); exact absurd h.clt (by omega))).trans h.str
    oc := (grow_old h.clt).trans h.oc
    ssd := (Dv.thing _ _ _ _).other h.ssd (by decide) hu
    back := (Dv.thing _ _ _ _).other h.back (by decide) hu
    jr := (Jn.thing _ _ _ _ _ _ _).other h.jr (by decide) hu
    ix := (Ix.thing _ _ _ _).other h.ix (by decide) hu
    ss := (Ss.thing _ _).other h.ss (by decide) hu
    lg := (Lg.thing _ _ _).mine hu.size hd
    ck := (Ck.thing _ _ _ _ _ _ _).other h.ck (by decide) hu
    sm := (Mp.thing _ _ _).other h.sm (by decide) hu
    far := (Did.step h.far (t := 7) (by decide) (by decide) hu).far
    nib := h.nib.keep hu (fun hs => by rcases hs with hs | hs; rw [h.on] at hs; exact absurd hs (by decide); exact absurd h.nib.lt (by omega))
    tur := h.tur.keep hu (fun hs => by rcases hs with hs | hs; rw [h.ot] at hs; exact absurd hs (by decide); exact absurd h.tur.lt (by omega))
    on := (grow_old h.nib.lt).trans h.on
    ot := (grow_old h.tur.lt).trans h.ot
    Gl := hl.trans h.Gl
  }
theorem CaAt.did7 (h : CaAt own w c n p a) (hu : Upd (fun j => own j = 7 ∨ w.heap.size ≤ j) w w') : Did own (grow own 7 w.heap.size w'.heap.size) w w' := Did.step h.far (by decide) (by decide) hu
theorem CaAt.open7 (h : CaAt own w c n p a) : Lg (fun j => own j = 7 ∨ w.heap.size ≤ j) w p.lg n.bl a.G := (Lg.thing _ _ _).open h.lg
theorem CaAt.turn1 (h : CaAt own w c n p a) (x : Nat) (hx : x ≤ 1) : CaAt own (w.setCell ⟨c, 16, none⟩ (.int .i64 (x : Int))) c n p { a with which := x } := by
  have hu : Upd (fun j => j = c) w (w.setCell ⟨c, 16, none⟩ (.int .i64 (x : Int))) := upd_setCell w c 16 _
  have hne : ∀ (k j : Nat), k ≠ 1 → own j = k → ¬ j = c := fun k j hk hj e => hk (by rw [← hj, e, h.oc])
  exact { h with
    str := heap_setCell_same h.str 16 _
    ssd := h.ssd.keep hu (fun j hj => hne _ j (by decide) hj)
    back := h.back.keep hu (fun j hj => hne _ j (by decide) hj)
    jr := (Jn.thing _ _ _ _ _ _ _).keep h.jr hu (fun j hj => hne _ j (by decide) hj)
    ix := (Ix.thing _ _ _ _).keep h.ix hu (fun j hj => hne _ j (by decide) hj)
    ss := (Ss.thing _ _).keep h.ss hu (fun j hj => hne _ j (by decide) hj)
    lg := (Lg.thing _ _ _).keep h.lg hu (fun j hj => hne _ j (by decide) hj)
    ck := h.ck.keep hu (fun j hj => hne _ j (by decide) hj)
    sm := (Mp.thing _ _ _).keep h.sm hu (fun j hj => hne _ j (by decide) hj)
    far := fun j hj => h.far j (by simpa using hj)
    nib := h.nib.keep hu (hne _ _ (by decide) h.on)
    tur := h.tur.keep hu (hne _ _ (by decide) h.ot)
    wh := hx }
theorem CaAt.did1 (h : CaAt own w c n p a) (x : Value) : Did own own w (w.setCell ⟨c, 16, none⟩ x) := (Did.refl h.far).setCell ⟨c, 16, none⟩ (fun _ => by rw [show own c = 1 from h.oc]; exact ⟨by decide, by decide⟩) x
theorem CaAt.didNew (h : CaAt own w c n p a) (hu : Upd (fun _ => False) w w') : Did own own w w' := ⟨hu.mono (fun _ _ h => h.elim), fun _ _ => rfl, fun j hj => by rw [h.far j hj]; decide, fun j hj => h.far j (Nat.le_trans hu.size hj)⟩
end
def CaOut (own : Nat → Nat) (w : World) (c : Nat) (n : CaN) (p : CaP) (a : CaS) (v : Value) (e : Ending) (w' : World) : Prop :=
  e = .returned v ∧ ∃ own', CaAt own' w' c n p a ∧ Did own own' w w'
section
variable {own : Nat → Nat} {w w' : World} {c : Nat} {n : CaN} {p : CaP} {a : CaS}
theorem CaAt.cells (h : CaAt own w c n p a) : w.cell? ⟨c, 14, none⟩ = some (ptr p.ssd) ∧ w.cell? ⟨c, 15, none⟩ = some (ptr p.back) ∧ w.cell? ⟨c, 16, none⟩ = some (.int .i64 (a.which : Int)) ∧
    w.cell? ⟨c, 17, none⟩ = some (ptr p.jr) ∧ w.cell? ⟨c, 18, none⟩ = some (ptr p.ix) ∧ w.cell? ⟨c, 19, none⟩ = some (ptr p.ss) ∧ w.cell? ⟨c, 20, none⟩ = some (ptr p.lg) ∧ w.cell? ⟨c, 21, none⟩ = some (ptr p.ck) ∧ w.cell? ⟨c, 22, none⟩ = some (.map (some p.sm)) := by
  have hc := cell_of_block h.str
  exact ⟨hc 14, hc 15, hc 16, hc 17, hc 18, hc 19, hc 20, hc 21, hc 22⟩
theorem CaAt.sup (h : CaAt own w c n p a) : w.cell? ⟨c, 0, none⟩ = some (.int .i64 (n.id : Int)) ∧ w.cell? ⟨c, 1, none⟩ = some (.int .i64 (n.bl : Int)) ∧ w.cell? ⟨c, 2, none⟩ = some (.int .i64 (n.sl : Int)) ∧
    w.cell? ⟨c, 3, none⟩ = some (.int .i64 (n.jo : Int)) ∧ w.cell? ⟨c, 4, none⟩ = some (.int .i64 (n.pa : Int)) ∧ w.cell? ⟨c, 5, none⟩ = some (.int .i64 (n.lo : Int)) ∧ w.cell? ⟨c, 6, none⟩ = some (.int .i64 (n.ba : Int)) := by
  have hc := cell_of_block h.str
  exact ⟨hc 0, hc 1, hc 2, hc 3, hc 4, hc 5, hc 6⟩
theorem CaAt.lay (h : CaAt own w c n p a) : w.cell? ⟨c, 7, none⟩ = some (.int .i64 1) ∧ w.cell? ⟨c, 8, none⟩ = some (.int .i64 (1 + 2 * (n.pa : Int))) ∧ w.cell? ⟨c, 13, none⟩ = some (.int .i64 (1 + 2 * (n.pa : Int) + (n.jo : Int) + (n.lo : Int) + (n.lo : Int) + (n.lo : Int) + (n.sl : Int))) ∧
    w.cell? ⟨c, 12, none⟩ = some (.int .i64 (1 + 2 * (n.pa : Int) + (n.jo : Int) + (n.lo : Int) + (n.lo : Int) + (n.lo : Int))) := by
  have hc := cell_of_block h.str
  exact ⟨hc 7, hc 8, hc 13, hc 12⟩
theorem CaAt.fz (h : CaAt own w c n p a) (i : Nat) : w.frozen? ⟨c, i, none⟩ = false := frozen_of_block h.str i
theorem ca_ssd_flush (h : CaAt own w c n p a) : Calls Tryz.prog 72 #[ptr p.ssd] w (CaOut own w c n p { a with dF := (flushR a.dF a.dO a.dP).F, dO := (flushR a.dF a.dO a.dP).O, dP := (flushR a.dF a.dO a.dP).P } (.int .i64 (flushR a.dF a.dO a.dP).cd)) :=
  (dflushR h.open2 (fun _ h => .inr h)).mono fun _ _ ⟨he, hd, hu⟩ => ⟨he, _, h.turn2 hu hd (by simp only [flushR]; (repeat' split) <;> simp [flushF_len]), h.did2 hu⟩
theorem ca_back_flush (h : CaAt own w c n p a) : Calls Tryz.prog 72 #[ptr p.back] w (CaOut own w c n p { a with bF := (flushR a.bF a.bO a.bP).F, bO := (flushR a.bF a.bO a.bP).O, bP := (flushR a.bF a.bO a.bP).P } (.int .i64 (flushR a.bF a.bO a.bP).cd)) :=
  (dflushR h.open3 (fun _ h => .inr h)).mono fun _ _ ⟨he, hd, hu⟩ => ⟨he, _, h.turn3 hu hd (by simp only [flushR]; (repeat' split) <;> simp [flushF_len]), h.did3 hu⟩
theorem ca_jnext (h : CaAt own w c n p a) : Calls Tryz.prog 157 #[ptr p.jr] w fun e w' => e = .returned (.int .i64 (a.next : Int)) ∧ w = w' := jnext_any h.jr
theorem Jn.out {S S' : Nat → Prop} {w : World} {j d base n cov next : Nat} {W : List (Nat × Bk)} (h : Jn S w j d base n cov next W) (ho : ∀ j, j < w.heap.size → S j → S' j) : Jn S' w j d base n cov next W := (Jn.thing _ _ _ _ _ _ _).out h ho
end
def byV (n i : Nat) : Value := .int .u8 (((UInt8.ofNat (n / 256 ^ i)).toNat : Nat) : Int)
theorem byV_eq (n k : Nat) : Value.int .u8 ((n : Int) / 2 ^ (8 * k) % 256) = byV n k := by
  unfold byV
  have h1 : (UInt8.ofNat (n / 256 ^ k)).toNat = n / 256 ^ k % 256 := by simp
  have h2 : (256 : Nat) ^ k = 2 ^ (8 * k) := by rw [Nat.pow_mul]
  rw [h1, h2, Int.natCast_emod, Int.natCast_ediv, Int.natCast_pow]
  rfl
set_option maxRecDepth 100000 in
set_option maxHeartbeats 1000000 in
theorem low_any {w : World} (n size : Nat) (_hn : n < 72057594037927936) (hs : size ≤ 7) (fd : Nat) (caps : Array Value) (hent : ∀ args w, (callFunc fd args).run Tryz.prog w = .ok (.enter fd args) w)
    (J : Nat → World → Prop) (h0 : J 0 w) (hput : ∀ i, i < size → ∀ w, J i w → Calls Tryz.prog fd (#[byV n i] ++ caps) w fun e w' => e = .returned (.tuple #[]) ∧ J (i + 1) w') :
    Calls Tryz.prog 173 #[.int .i64 (n : Int), .int .i64 (size : Int), .func (.func fd) #[] caps] w fun e w' => e = .returned (.tuple #[]) ∧ J size w' := by
  have H := Lib.hid (And.intro h0 hput)
  clear h0 hput
  go_enter Tryz.func173, Tryz.ntmps173
  go_wp2
  go_step3
  go_wp2
  go_step3
  go_wp2
  go_loopw [6] (fun i wr => ∃ k : Nat, k ≤ size ∧ i = .int .i64 k ∧ J k wr) (fun i _ => size - (intOf i).toNat)
  case atStart => exact ⟨0, Nat.zero_le _, rfl, H.out.1⟩
  case round =>
    obtain ⟨k, hk, rfl, hJ⟩ := hrel
    have HJ := Lib.hid hJ
    clear hJ
    by_cases hlt : k < size
    · have hq : ((k : Int) == (size : Int)) = false := by rw [beq_eq_false_iff_ne]; omega
      go_wp2_with fail
      rw [byV_eq]
      refine (H.out.2 k hlt wr HJ.out).mono ?_
      rintro e w2 ⟨rfl, hJ2⟩
      have HJ2 := Lib.hid hJ2
      clear hJ2
      go_wp2
      go_roundw
      case rel => exact ⟨k + 1, by omega, by go_num, HJ2.out⟩
      case measure => simp [intOf]; omega
    · obtain rfl : k = size := by omega
      go_wp2
      try rw [Exit.noGoto_normal]
      go_end0
      exact ⟨rfl, HJ.out⟩
theorem may_ok (n size left : Nat) (h1 : 1 ≤ size) (h2 : size ≤ 7) (hn : n < 256 ^ size) (hl : size ≤ left) (_hl2 : left ≤ 60) (w : World) :
    Calls Tryz.prog 167 #[.int .i64 (n : Int), .int .i64 (size : Int), .int .i64 (left : Int)] w fun e w' => e = .returned (.int .i64 0) ∧ w' = w := by
  have hsh : Hid ((n : Int) / 2 ^ (8 * size) = 0) := by
    show _ = _
    have e : (256 : Nat) ^ size = 2 ^ (8 * size) := by rw [Nat.pow_mul]
    rw [e] at hn
    have : ((n / 2 ^ (8 * size) : Nat) : Int) = 0 := by rw [Nat.div_eq_of_lt hn]; rfl
    rw [Int.natCast_ediv, Int.natCast_pow] at this
    exact this
  have hn2 : n < 72057594037927936 := Nat.lt_of_lt_of_le hn (Nat.pow_le_pow_right (n := 256) (by omega) h2)
  clear hn
  have q1 : decide ((size : Int) < 1) = false := by simp; omega
  have q2 : decide ((7 : Int) < (size : Int)) = false := by simp; omega
  have q3 : decide ((n : Int) < 0) = false := by simp
  have q4 := hsh.out
  go_enter Tryz.func167, Tryz.ntmps167
  go_wp2
  go_ret
  exact ⟨rfl, rfl⟩
def padB (bs : List UInt8) : Bk := bs ++ List.replicate (64 - bs.length) 0
theorem padB_len {bs : List UInt8} (h : bs.length ≤ 64) : (padB bs).length = 64 := by simp [padB]; omega
theorem padB_snoc {bs : List UInt8} (h : bs.length < 64) (b : UInt8) : padB (bs ++ [b]) = (padB bs).set bs.length b := by
  unfold padB
  have e : 64 - bs.length = (64 - (bs ++ [b]).length) + 1 := by simp; omega
  rw [e, List.replicate_succ, List.set_append_right _ _ (Nat.le_refl _)]
  simp
theorem lowB_snoc (n i : Nat) : lowB n (i + 1) = lowB n i ++ [UInt8.ofNat (n / 256 ^ i)] := by
  induction i generalizing n with
  | zero => simp [lowB]
  | succ i ih =>
    have h1 := ih (n / 256)
    show UInt8.ofNat n :: lowB (n / 256) (i + 1) = (UInt8.ofNat n :: lowB (n / 256) i) ++ _
    rw [h1, List.cons_append, Nat.div_div_eq_div_mul, Nat.pow_succ, Nat.mul_comm]
theorem bkC_set (x : Bk) (i : Nat) (b : UInt8) : bkC (x.set i b) = (bkC x).set i (Go.Extern.Stop.cell b) := by simp [bkC, List.map_set]
def WrAt (w : World) (g : Nat) (bs : List UInt8) : Prop :=
  bs.length ≤ 60 ∧ w.heap[g]? = some (.cells (bkC (padB bs) ++ [Value.int .i64 (bs.length : Int), Value.int .i64 0]).toArray 268 (0, 0))
section
variable {w w' : World} {g : Nat} {bs : List UInt8}
theorem WrAt.lt (h : WrAt w g bs) : g < w.heap.size := lt_of_block h.2
theorem WrAt.keep (h : WrAt w g bs) {S : Nat → Prop} (hu : Upd S w w') (hs : ¬ S g) : WrAt w' g bs := ⟨h.1, (hu.block g h.lt hs).trans h.2⟩
theorem WrAt.len (h : WrAt w g bs) : (bkC (padB bs)).length = 64 := by rw [bkC_len, padB_len (by have := h.1; omega)]
theorem WrAt.c64 (h : WrAt w g bs) : w.cell? ⟨g, 64, none⟩ = some (.int .i64 (bs.length : Int)) := by
  rw [cell_of_block h.2, List.getElem?_toArray, List.getElem?_append_right (by rw [h.len]; omega), h.len]; rfl
theorem WrAt.c65 (h : WrAt w g bs) : w.cell? ⟨g, 65, none⟩ = some (.int .i64 0) := by
  rw [cell_of_block h.2, List.getElem?_toArray, List.getElem?_append_right (by rw [h.len]; omega), h.len]; rfl
theorem WrAt.fz (h : WrAt w g bs) (i : Nat) : w.frozen? ⟨g, i, none⟩ = false := frozen_of_block h.2 i
theorem WrAt.range (h : WrAt w g bs) : w.rangeAt g 0 (bkC (padB bs)) := fun j v hv => by
  have hj := (List.getElem?_eq_some_iff.1 hv).1
  rw [cell_of_block h.2, Nat.zero_add, List.getElem?_toArray, List.getElem?_append_left hj]; exact hv
theorem WrAt.some (h : WrAt w g bs) {i : Nat} (hi : i < 66) : ∃ v, w.cell? ⟨g, i, none⟩ = some v := by
  rw [cell_of_block h.2, List.getElem?_toArray]
  exact ⟨_, List.getElem?_eq_getElem (by rw [List.length_append, h.len]; exact hi)⟩
theorem WrAt.push (h : WrAt w g bs) (hl : bs.length < 60) (b : UInt8) (hw : Upd (fun _ => False) (w.setCell ⟨g, bs.length, none⟩ (Go.Extern.Stop.cell b)) w') :
    WrAt (w'.setCell ⟨g, 64, none⟩ (.int .i64 ((bs ++ [b]).length : Int))) g (bs ++ [b]) := by
  refine ⟨by simp; omega, ?_⟩
  have h1 := heap_setCell_same h.2 bs.length (Go.Extern.Stop.cell b)
  have h2 := (hw.block g (lt_of_block h1) (fun h => h)).trans h1
  have h3 := heap_setCell_same h2 64 (.int .i64 ((bs ++ [b]).length : Int))
  rw [h3]
  congr 2
  rw [List.setIfInBounds_toArray, List.setIfInBounds_toArray, List.set_append_left _ _ (by rw [h.len]; omega), ← bkC_set, ← padB_snoc (by omega)]
  have hl2 : (bkC (padB (bs ++ [b]))).length = 64 := by rw [bkC_len, padB_len (by simp; omega)]
  rw [List.set_append_right _ _ (by omega), hl2]
  rfl
end
set_option maxRecDepth 100000 in
set_option maxHeartbeats 1000000 in
theorem wput1 {w : World} {g g0 : Nat} {bs : List UInt8} (h : WrAt w g bs) (hl : bs.length < 60) (b : UInt8) (hc : w.cell? ⟨g0, 0, none⟩ = some (.pointer (some ⟨g, 0, none⟩))) (hne : ¬ g = g0) :
    Calls Tryz.prog 172 #[.int .u8 ((b.toNat : Nat) : Int), .pointer (some ⟨g0, 0, none⟩)] w fun e w' => e = .returned (.tuple #[]) ∧ WrAt w' g (bs ++ [b]) ∧ Upd (fun j => j = g) w w' := by
  have c64 := h.c64
  obtain ⟨v0, cb⟩ := h.some (i := bs.length) (by omega)
  have hfz := h.fz bs.length
  have hfz2 := h.fz 64
  have hU : Upd (fun j => j = g) w ((w.setCell ⟨g, bs.length, none⟩ (.int .u8 ((b.toNat : Nat) : Int))).drew.setCell ⟨g, 64, none⟩ (.int .i64 ((bs.length : Int) + 1))) := ((upd_setCell _ _ _ _).drew).trans (upd_setCell _ _ _ _)
  have hP : WrAt ((w.setCell ⟨g, bs.length, none⟩ (.int .u8 ((b.toNat : Nat) : Int))).drew.setCell ⟨g, 64, none⟩ (.int .i64 ((bs.length : Int) + 1))) g (bs ++ [b]) := by
    have := h.push hl b ((Upd.refl (fun _ => False) _).drew)
    rw [List.length_append] at this
    exact this
  have HP := Lib.hid (And.intro hP hU)
  have hb1 : 0 ≤ (bs.length : Int) ∧ (bs.length : Int) < 60 := ⟨by omega, by omega⟩
  obtain ⟨hb1, hb2⟩ := hb1
  clear h hP hU
  go_enter Tryz.func172, Tryz.ntmps172
  go_wp2
  go_region
  go_wp2
  go_end0
  exact ⟨rfl, HP.out.1, HP.out.2⟩
theorem WrAt.set65 {w : World} {g : Nat} {bs : List UInt8} (h : WrAt w g bs) : WrAt (w.setCell ⟨g, 65, none⟩ (.int .i64 0)) g bs := by
  refine ⟨h.1, ?_⟩
  rw [heap_setCell_same h.2 65 (.int .i64 0)]
  congr 2
  rw [List.setIfInBounds_toArray, List.set_append_right _ _ (by rw [h.len]; omega), h.len]
  rfl
theorem cell_keep_off {w : World} {g o b o' : Nat} {v u : Value} (h : w.cell? ⟨g, o, none⟩ = some v) (hne : o' ≠ o) : (w.setCell ⟨b, o', none⟩ u).cell? ⟨g, o, none⟩ = some v := by
  rw [World.cell?_setCell_other _ _ _ _ (fun e => hne (congrArg Addr.off e)), h]
theorem wwrite (w : World) : Calls Tryz.prog 126 #[] w fun e w' => ∃ g, e = .returned (.pointer (some ⟨g, 0, none⟩)) ∧ WrAt w' g [] ∧ w.heap.size ≤ g ∧ Below w.heap.size w w' := by
  go_enter Tryz.func126, Tryz.ntmps126
  go_wp2
  go_ret
  refine ⟨w.heap.size, rfl, ⟨by simp, heap_alloc_last w _ rfl⟩, Nat.le_refl _, (Below.refl _ w).alloc (Nat.le_refl _) _⟩
set_option maxRecDepth 100000 in
set_option maxHeartbeats 1000000 in
theorem wput {w : World} {g : Nat} {bs : List UInt8} (h : WrAt w g bs) (n size : Nat) (h1 : 1 ≤ size) (h2 : size ≤ 7) (hn : n < 256 ^ size) (hl : bs.length + size ≤ 60) :
    Calls Tryz.prog 127 #[.pointer (some ⟨g, 0, none⟩), .int .i64 (n : Int), .int .i64 (size : Int)] w fun e w' => e = .returned (.pointer (some ⟨g, 0, none⟩)) ∧ WrAt w' g (bs ++ lowB n size) ∧ Upd (fun j => j = g) w w' := by
  have hmf : ∀ (fn : Fn) (first cap : Array Value) (w : World), (Instr.makeFunc fn first cap).run Tryz.prog w = .ok (.func fn first cap) w := fun _ _ _ _ => rfl
  have hua : Upd (fun _ => False) w (w.alloc (.cells #[.pointer (some ⟨g, 0, none⟩)] 209)) := (Upd.refl _ _).alloc _
  have h' := h.keep hua (fun h => h)
  have c0 : (w.alloc (.cells #[.pointer (some ⟨g, 0, none⟩)] 209)).cell? ⟨w.heap.size, 0, none⟩ = some (.pointer (some ⟨g, 0, none⟩)) := cell_of_block (heap_alloc_last w _ rfl) 0
  have c64 := h'.c64
  have c65 := h'.c65
  have z65 := h'.fz 65
  have hgl := h.lt
  have hne : ¬ g = w.heap.size := by omega
  have hne2 : w.heap.size ≠ g := by omega
  have H := Lib.hid (And.intro h' (And.intro hua (And.intro hn (And.intro h2 (And.intro hl h1)))))
  have hs1 : (60 : Int) - bs.length = ((60 - bs.length : Nat) : Int) := by omega
  have hsw : IntKind.i64.wrap (60 - (bs.length : Int)) = ((60 - bs.length : Nat) : Int) := by rw [hs1, IntWalk.i64_in _ (by omega)]
  clear h' hua hn h h1 hs1
  go_enter Tryz.func127, Tryz.ntmps127
  go_wp2
  generalize (w.alloc (.cells #[.pointer (some ⟨g, 0, none⟩)] 209)) = w1 at *
  generalize w.heap.size = m at *
  go_region_held3 (fun W => W.cell? ⟨m, 0, none⟩ = some (.pointer (some ⟨g, 0, none⟩)) ∧ W.cell? ⟨g, 64, none⟩ = some (.int .i64 (bs.length : Int)))
    ((go_split_ands; (simp only [World.cell?_drew] at *); ((repeat' constructor) <;> first | assumption | (refine cell_keep_set ?_ ?_ <;> assumption) | (refine cell_keep_off ?_ (by decide); assumption))))
    (first | (go_at_call 167; refine (may_ok n size (60 - bs.length) H.out.2.2.2.2.2 H.out.2.2.2.1 H.out.2.2.1 (by have := H.out.2.2.2.2.1; omega) (by omega) _).mono ?_; rintro e w' ⟨rfl, rfl⟩))
  have hW2 : WrAt (w1.setCell ⟨g, 65, none⟩ (.int .i64 0)).drew g bs := (H.out.1.set65).keep ((Upd.refl (fun _ => False) _).drew) (fun h => h)
  have hU2 : Hid (Upd (fun j => j = g) w (w1.setCell ⟨g, 65, none⟩ (.int .i64 0)).drew) := (H.out.2.1.mono (fun _ _ h => h.elim)).trans ((upd_setCell _ _ _ _).drew)
  have c02 : (w1.setCell ⟨g, 65, none⟩ (.int .i64 0)).drew.cell? ⟨m, 0, none⟩ = some (.pointer (some ⟨g, 0, none⟩)) := by
    rw [World.cell?_drew]; exact cell_keep_set c0 hne
  rename_i hHeld
  clear hHeld
  generalize (w1.setCell ⟨g, 65, none⟩ (.int .i64 0)).drew = w2 at *
  have c65' := hW2.c65
  have HW := Lib.hid (And.intro hW2 c02)
  clear hW2 c0 c64 c65 z65
  go_wp2_with fail
  refine (low_any (w := w2) n size (Nat.lt_of_lt_of_le H.out.2.2.1 (Nat.pow_le_pow_right (n := 256) (by omega) h2)) h2 172 #[.pointer (some ⟨m, 0, none⟩)] (fun _ _ => rfl)
    (fun i W => WrAt W g (bs ++ lowB n i) ∧ Upd (fun j => j = g) w2 W) ⟨by simpa [lowB] using HW.out.1, Upd.refl _ _⟩ ?_).mono ?_
  · intro i hi W hJ
    refine (wput1 hJ.1 (by rw [List.length_append, lowB_len]; omega) (UInt8.ofNat (n / 256 ^ i)) (hJ.2.cellv HW.out.2 hne2) hne).mono ?_
    rintro e w' ⟨rfl, h3, h4⟩
    refine ⟨rfl, ?_, hJ.2.trans h4⟩
    rw [lowB_snoc, ← List.append_assoc]; exact h3
  · rintro e w3 ⟨rfl, hW3, hU3⟩
    have c03 := hU3.cellv HW.out.2 hne2
    have HZ := Lib.hid (And.intro hW3 hU3)
    clear hW3 hU3
    go_wp2
    go_ret
    exact ⟨rfl, HZ.out.1, hU2.out.trans HZ.out.2⟩
end Go.Proofs.YtnadilfobmgebaaGreatDoor
