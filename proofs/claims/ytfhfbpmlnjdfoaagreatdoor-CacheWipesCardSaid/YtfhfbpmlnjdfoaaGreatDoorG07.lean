/- What becomes of a cache where one of its things turns. What a cache's functions do to its things. A journal: Cover of all that was added (DeleteFunc lets nothing stay). A cache's ledger, journal and slots, call by call; load of no entries. A waiting record, as it is built. Bytes of numbers: may, low, seal, Sealed. -/
import Derived.Test.YtfhfbpmlnjdfoaaGreatDoorG06
import Derived.Test.YtfhfbpmlnjdfoaaGreatDoorG03
import Derived.Lib.SliceRun
import Derived.Great.BuildSlice
namespace Go.Proofs.YtfhfbpmlnjdfoaaGreatDoor
open Go Go.RowKit
section
variable {own : Nat → Nat} {w w' : World} {c : Nat} {n : CaN} {p : CaP} {a : CaS}
theorem CaAt.turn2 (h : CaAt own w c n p a) {F : List Bk} {O : List (Nat × Bk)} {P : List Int} (hu : Upd (fun j => own j = 2 ∨ w.heap.size ≤ j) w w') (hd : Dv (fun j => own j = 2 ∨ w.heap.size ≤ j) w' p.ssd F O P) (hl : F.length = a.dF.length) :
    CaAt (grow own 2 w.heap.size w'.heap.size) w' c n p { a with dF := F, dO := O, dP := P } :=
  { h with
    str := (hu.block c h.clt (fun hs => by rcases hs with hs | hs; rw [h.oc] at hs; exact absurd hs (by decide); exact absurd h.clt (by omega))).trans h.str
    oc := (grow_old h.clt).trans h.oc
    ssd := (Dv.thing _ _ _ _).mine hu.size hd
    back := (Dv.thing _ _ _ _).other h.back (by decide) hu
    jr := (Jn.thing _ _ _ _ _ _ _).other h.jr (by decide) hu
    ix := (Ix.thing _ _ _ _).other h.ix (by decide) hu
    ss := (Ss.thing _ _).other h.ss (by decide) hu
    lg := (Lg.thing _ _ _).other h.lg (by decide) hu
    ck := (Ck.thing _ _ _ _ _ _ _).other h.ck (by decide) hu
    sm := (Mp.thing _ _ _).other h.sm (by decide) hu
    far := (Did.step h.far (t := 2) (by decide) (by decide) hu).far
    nib := h.nib.keep hu (fun hs => by rcases hs with hs | hs; rw [h.on] at hs; exact absurd hs (by decide); exact absurd h.nib.lt (by omega))
    tur := h.tur.keep hu (fun hs => by rcases hs with hs | hs; rw [h.ot] at hs; exact absurd hs (by decide); exact absurd h.tur.lt (by omega))
    on := (grow_old h.nib.lt).trans h.on
    ot := (grow_old h.tur.lt).trans h.ot
    fl := hl.trans h.fl
  }
theorem CaAt.did2 (h : CaAt own w c n p a) (hu : Upd (fun j => own j = 2 ∨ w.heap.size ≤ j) w w') : Did own (grow own 2 w.heap.size w'.heap.size) w w' := Did.step h.far (by decide) (by decide) hu
theorem CaAt.open2 (h : CaAt own w c n p a) : Dv (fun j => own j = 2 ∨ w.heap.size ≤ j) w p.ssd a.dF a.dO a.dP := (Dv.thing _ _ _ _).open h.ssd
theorem CaAt.turn3 (h : CaAt own w c n p a) {F : List Bk} {O : List (Nat × Bk)} {P : List Int} (hu : Upd (fun j => own j = 3 ∨ w.heap.size ≤ j) w w') (hd : Dv (fun j => own j = 3 ∨ w.heap.size ≤ j) w' p.back F O P) (hl : F.length = a.bF.length) :
    CaAt (grow own 3 w.heap.size w'.heap.size) w' c n p { a with bF := F, bO := O, bP := P } :=
  { h with
    str := (hu.block c h.clt (fun hs => by rcases hs with hs | hs; rw [h.oc] at hs; exact absurd hs (by decide); exact absurd h.clt (by omega))).trans h.str
    oc := (grow_old h.clt).trans h.oc
    ssd := (Dv.thing _ _ _ _).other h.ssd (by decide) hu
    back := (Dv.thing _ _ _ _).mine hu.size hd
    jr := (Jn.thing _ _ _ _ _ _ _).other h.jr (by decide) hu
    ix := (Ix.thing _ _ _ _).other h.ix (by decide) hu
    ss := (Ss.thing _ _).other h.ss (by decide) hu
    lg := (Lg.thing _ _ _).other h.lg (by decide) hu
    ck := (Ck.thing _ _ _ _ _ _ _).other h.ck (by decide) hu
    sm := (Mp.thing _ _ _).other h.sm (by decide) hu
    far := (Did.step h.far (t := 3) (by decide) (by decide) hu).far
    nib := h.nib.keep hu (fun hs => by rcases hs with hs | hs; rw [h.on] at hs; exact absurd hs (by decide); exact absurd h.nib.lt (by omega))
    tur := h.tur.keep hu (fun hs => by rcases hs with hs | hs; rw [h.ot] at hs; exact absurd hs (by decide); exact absurd h.tur.lt (by omega))
    on := (grow_old h.nib.lt).trans h.on
    ot := (grow_old h.tur.lt).trans h.ot
    gl := hl.trans h.gl
  }
theorem CaAt.did3 (h : CaAt own w c n p a) (hu : Upd (fun j => own j = 3 ∨ w.heap.size ≤ j) w w') : Did own (grow own 3 w.heap.size w'.heap.size) w w' := Did.step h.far (by decide) (by decide) hu
theorem CaAt.open3 (h : CaAt own w c n p a) : Dv (fun j => own j = 3 ∨ w.heap.size ≤ j) w p.back a.bF a.bO a.bP := (Dv.thing _ _ _ _).open h.back
theorem CaAt.turn4 (h : CaAt own w c n p a) {cov next : Nat} {W : List (Nat × Bk)} (hu : Upd (fun j => own j = 4 ∨ w.heap.size ≤ j) w w') (hd : Jn (fun j => own j = 4 ∨ w.heap.size ≤ j) w' p.jr p.ssd (1 + 2 * n.pa) n.jo cov next W) :
    CaAt (grow own 4 w.heap.size w'.heap.size) w' c n p { a with cov := cov, next := next, W := W } :=
  { h with
    str := (hu.block c h.clt (fun hs => by rcases hs with hs | hs; rw [h.oc] at hs; exact absurd hs (by decide); exact absurd h.clt (by omega))).trans h.str
    oc := (grow_old h.clt).trans h.oc
    ssd := (Dv.thing _ _ _ _).other h.ssd (by decide) hu
    back := (Dv.thing _ _ _ _).other h.back (by decide) hu
    jr := (Jn.thing _ _ _ _ _ _ _).mine hu.size hd
    ix := (Ix.thing _ _ _ _).other h.ix (by decide) hu
    ss := (Ss.thing _ _).other h.ss (by decide) hu
    lg := (Lg.thing _ _ _).other h.lg (by decide) hu
    ck := (Ck.thing _ _ _ _ _ _ _).other h.ck (by decide) hu
    sm := (Mp.thing _ _ _).other h.sm (by decide) hu
    far := (Did.step h.far (t := 4) (by decide) (by decide) hu).far
    nib := h.nib.keep hu (fun hs => by rcases hs with hs | hs; rw [h.on] at hs; exact absurd hs (by decide); exact absurd h.nib.lt (by omega))
    tur := h.tur.keep hu (fun hs => by rcases hs with hs | hs; rw [h.ot] at hs; exact absurd hs (by decide); exact absurd h.tur.lt (by omega))
    on := (grow_old h.nib.lt).trans h.on
    ot := (grow_old h.tur.lt).trans h.ot
  }
theorem CaAt.did4 (h : CaAt own w c n p a) (hu : Upd (fun j => own j = 4 ∨ w.heap.size ≤ j) w w') : Did own (grow own 4 w.heap.size w'.heap.size) w w' := Did.step h.far (by decide) (by decide) hu
theorem CaAt.open4 (h : CaAt own w c n p a) : Jn (fun j => own j = 4 ∨ w.heap.size ≤ j) w p.jr p.ssd (1 + 2 * n.pa) n.jo a.cov a.next a.W := (Jn.thing _ _ _ _ _ _ _).open h.jr
theorem CaAt.turn5 (h : CaAt own w c n p a) {N : Nat} {ps : List (Int × Bool)} (hu : Upd (fun j => own j = 5 ∨ w.heap.size ≤ j) w w') (hd : Ix (fun j => own j = 5 ∨ w.heap.size ≤ j) w' p.ix N ps n.sl) (hl : ps.length = a.ps.length) :
    CaAt (grow own 5 w.heap.size w'.heap.size) w' c n p { a with iN := N, ps := ps } :=
  { h with
    str := (hu.block c h.clt (fun hs => by rcases hs with hs | hs; rw [h.oc] at hs; exact absurd hs (by decide); exact absurd h.clt (by omega))).trans h.str
    oc := (grow_old h.clt).trans h.oc
    ssd := (Dv.thing _ _ _ _).other h.ssd (by decide) hu
    back := (Dv.thing _ _ _ _).other h.back (by decide) hu
    jr := (Jn.thing _ _ _ _ _ _ _).other h.jr (by decide) hu
    ix := (Ix.thing _ _ _ _).mine hu.size hd
    ss := (Ss.thing _ _).other h.ss (by decide) hu
    lg := (Lg.thing _ _ _).other h.lg (by decide) hu
    ck := (Ck.thing _ _ _ _ _ _ _).other h.ck (by decide) hu
    sm := (Mp.thing _ _ _).other h.sm (by decide) hu
    far := (Did.step h.far (t := 5) (by decide) (by decide) hu).far
    nib := h.nib.keep hu (fun hs => by rcases hs with hs | hs; rw [h.on] at hs; exact absurd hs (by decide); exact absurd h.nib.lt (by omega))
    tur := h.tur.keep hu (fun hs => by rcases hs with hs | hs; rw [h.ot] at hs; exact absurd hs (by decide); exact absurd h.tur.lt (by omega))
    on := (grow_old h.nib.lt).trans h.on
    ot := (grow_old h.tur.lt).trans h.ot
    pl := hl.trans h.pl
  }
theorem CaAt.did5 (h : CaAt own w c n p a) (hu : Upd (fun j => own j = 5 ∨ w.heap.size ≤ j) w w') : Did own (grow own 5 w.heap.size w'.heap.size) w w' := Did.step h.far (by decide) (by decide) hu
theorem CaAt.open5 (h : CaAt own w c n p a) : Ix (fun j => own j = 5 ∨ w.heap.size ≤ j) w p.ix a.iN a.ps n.sl := (Ix.thing _ _ _ _).open h.ix
theorem CaAt.turn6 (h : CaAt own w c n p a) {l : List Int} (hu : Upd (fun j => own j = 6 ∨ w.heap.size ≤ j) w w') (hd : Ss (fun j => own j = 6 ∨ w.heap.size ≤ j) w' p.ss l) (hl : l.length = a.st.length) :
    CaAt (grow own 6 w.heap.size w'.heap.size) w' c n p { a with st := l } :=
  { h with
    str := (hu.block c h.clt (fun hs => by rcases hs with hs | hs; rw [h.oc] at hs; exact absurd hs (by decide); exact absurd h.clt (by omega))).trans h.str
    oc := (grow_old h.clt).trans h.oc
    ssd := (Dv.thing _ _ _ _).other h.ssd (by decide) hu
    back := (Dv.thing _ _ _ _).other h.back (by decide) hu
    jr := (Jn.thing _ _ _ _ _ _ _).other h.jr (by decide) hu
    ix := (Ix.thing _ _ _ _).other h.ix (by decide) hu
    ss := (Ss.thing _ _).mine hu.size hd
    lg := (Lg.thing _ _ _).other h.lg (by decide) hu
    ck := (Ck.thing _ _ _ _ _ _ _).other h.ck (by decide) hu
    sm := (Mp.thing _ _ _).other h.sm (by decide) hu
    far := (Did.step h.far (t := 6) (by decide) (by decide) hu).far
    nib := h.nib.keep hu (fun hs => by rcases hs with hs | hs; rw [h.on] at hs; exact absurd hs (by decide); exact absurd h.nib.lt (by omega))
    tur := h.tur.keep hu (fun hs => by rcases hs with hs | hs; rw [h.ot] at hs; exact absurd hs (by decide); exact absurd h.tur.lt (by omega))
    on := (grow_old h.nib.lt).trans h.on
    ot := (grow_old h.tur.lt).trans h.ot
    sl := hl.trans h.sl
  }
theorem CaAt.did6 (h : CaAt own w c n p a) (hu : Upd (fun j => own j = 6 ∨ w.heap.size ≤ j) w w') : Did own (grow own 6 w.heap.size w'.heap.size) w w' := Did.step h.far (by decide) (by decide) hu
theorem CaAt.open6 (h : CaAt own w c n p a) : Ss (fun j => own j = 6 ∨ w.heap.size ≤ j) w p.ss a.st := (Ss.thing _ _).open h.ss
theorem CaAt.turn7 (h : CaAt own w c n p a) {G : List (Int → Bool)} (hu : Upd (fun j => own j = 7 ∨ w.heap.size ≤ j) w w') (hd : Lg (fun j => own j = 7 ∨ w.heap.size ≤ j) w' p.lg n.bl G) (hl : G.length = a.G.length) :
    CaAt (grow own 7 w.heap.size w'.heap.size) w' c n p { a with G := G } :=
  { h with
    str := (hu.block c h.clt (fun hs => by rcases hs with hs | hs; rw [h.oc] at hs; exact absurd hs (by decide); exact absurd h.clt (by omega))).trans h.str
    oc := (grow_old h.clt).trans h.oc
    ssd := (Dv.thing _ _ _ _).other h.ssd (by decide) hu
    back := (Dv.thing _ _ _ _).other h.back (by decide) hu
    jr := (Jn.thing _ _ _ _ _ _ _).other h.jr (by decide) hu
    ix := (Ix.thing _ _ _ _).other h.ix (by decide) hu
    ss := (Ss.thing _ _).other h.ss (by decide) hu
    lg := (Lg.thing _ _ _).mine hu.size hd
    ck := (Ck.thing _ _ _ _ _ _ _).other h.ck (by decide) hu
    sm := (Mp.thing _ _ _).other h.sm (by decide) hu
    far := (Did.step h.far (t := 7) (by decide) (by decide) hu).far
    nib := h.nib.keep hu (fun hs => by rcases hs with hs | hs; rw [h.on] at hs; exact absurd hs (by decide); exact absurd h.nib.lt (by omega))
    tur := h.tur.keep hu (fun hs => by rcases hs with hs | hs; rw [h.ot] at hs; exact absurd hs (by decide); exact absurd h.tur.lt (by omega))
    on := (grow_old h.nib.lt).trans h.on
    ot := (grow_old h.tur.lt).trans h.ot
    Gl := hl.trans h.Gl
  }
theorem CaAt.did7 (h : CaAt own w c n p a) (hu : Upd (fun j => own j = 7 ∨ w.heap.size ≤ j) w w') : Did own (grow own 7 w.heap.size w'.heap.size) w w' := Did.step h.far (by decide) (by decide) hu
theorem CaAt.open7 (h : CaAt own w c n p a) : Lg (fun j => own j = 7 ∨ w.heap.size ≤ j) w p.lg n.bl a.G := (Lg.thing _ _ _).open h.lg
theorem CaAt.turn8 (h : CaAt own w c n p a) {N : Nat} {K H : List Int} {A : Int → Bool} (hu : Upd (fun j => own j = 8 ∨ w.heap.size ≤ j) w w') (hd : Ck (fun j => own j = 8 ∨ w.heap.size ≤ j) w' p.ck N n.sl n.sl K A H) :
    CaAt (grow own 8 w.heap.size w'.heap.size) w' c n p { a with kN := N, K := K, A := A, H := H } :=
  { h with
    str := (hu.block c h.clt (fun hs => by rcases hs with hs | hs; rw [h.oc] at hs; exact absurd hs (by decide); exact absurd h.clt (by omega))).trans h.str
    oc := (grow_old h.clt).trans h.oc
    ssd := (Dv.thing _ _ _ _).other h.ssd (by decide) hu
    back := (Dv.thing _ _ _ _).other h.back (by decide) hu
    jr := (Jn.thing _ _ _ _ _ _ _).other h.jr (by decide) hu
    ix := (Ix.thing _ _ _ _).other h.ix (by decide) hu
    ss := (Ss.thing _ _).other h.ss (by decide) hu
    lg := (Lg.thing _ _ _).other h.lg (by decide) hu
    ck := (Ck.thing _ _ _ _ _ _ _).mine hu.size hd
    sm := (Mp.thing _ _ _).other h.sm (by decide) hu
    far := (Did.step h.far (t := 8) (by decide) (by decide) hu).far
    nib := h.nib.keep hu (fun hs => by rcases hs with hs | hs; rw [h.on] at hs; exact absurd hs (by decide); exact absurd h.nib.lt (by omega))
    tur := h.tur.keep hu (fun hs => by rcases hs with hs | hs; rw [h.ot] at hs; exact absurd hs (by decide); exact absurd h.tur.lt (by omega))
    on := (grow_old h.nib.lt).trans h.on
    ot := (grow_old h.tur.lt).trans h.ot
  }
theorem CaAt.did8 (h : CaAt own w c n p a) (hu : Upd (fun j => own j = 8 ∨ w.heap.size ≤ j) w w') : Did own (grow own 8 w.heap.size w'.heap.size) w w' := Did.step h.far (by decide) (by decide) hu
theorem CaAt.open8 (h : CaAt own w c n p a) : Ck (fun j => own j = 8 ∨ w.heap.size ≤ j) w p.ck a.kN n.sl n.sl a.K a.A a.H := (Ck.thing _ _ _ _ _ _ _).open h.ck
theorem CaAt.turn9 (h : CaAt own w c n p a) {N : Nat} {f : Int → Option Nat} (hu : Upd (fun j => own j = 9 ∨ w.heap.size ≤ j) w w') (hd : Mp (fun j => own j = 9 ∨ w.heap.size ≤ j) w' p.sm N f) :
    CaAt (grow own 9 w.heap.size w'.heap.size) w' c n p { a with mN := N, sums := f } :=
  { h with
    str := (hu.block c h.clt (fun hs => by rcases hs with hs | hs; rw [h.oc] at hs; exact absurd hs (by decide); exact absurd h.clt (by omega))).trans h.str
    oc := (grow_old h.clt).trans h.oc
    ssd := (Dv.thing _ _ _ _).other h.ssd (by decide) hu
    back := (Dv.thing _ _ _ _).other h.back (by decide) hu
    jr := (Jn.thing _ _ _ _ _ _ _).other h.jr (by decide) hu
    ix := (Ix.thing _ _ _ _).other h.ix (by decide) hu
    ss := (Ss.thing _ _).other h.ss (by decide) hu
    lg := (Lg.thing _ _ _).other h.lg (by decide) hu
    ck := (Ck.thing _ _ _ _ _ _ _).other h.ck (by decide) hu
    sm := (Mp.thing _ _ _).mine hu.size hd
    far := (Did.step h.far (t := 9) (by decide) (by decide) hu).far
    nib := h.nib.keep hu (fun hs => by rcases hs with hs | hs; rw [h.on] at hs; exact absurd hs (by decide); exact absurd h.nib.lt (by omega))
    tur := h.tur.keep hu (fun hs => by rcases hs with hs | hs; rw [h.ot] at hs; exact absurd hs (by decide); exact absurd h.tur.lt (by omega))
    on := (grow_old h.nib.lt).trans h.on
    ot := (grow_old h.tur.lt).trans h.ot
  }
theorem CaAt.did9 (h : CaAt own w c n p a) (hu : Upd (fun j => own j = 9 ∨ w.heap.size ≤ j) w w') : Did own (grow own 9 w.heap.size w'.heap.size) w w' := Did.step h.far (by decide) (by decide) hu
theorem CaAt.turn1 (h : CaAt own w c n p a) (x : Nat) (hx : x ≤ 1) : CaAt own (w.setCell ⟨c, 16, none⟩ (.int .i64 (x : Int))) c n p { a with which := x } := by
  have hu : Upd (fun j => j = c) w (w.setCell ⟨c, 16, none⟩ (.int .i64 (x : Int))) := upd_setCell w c 16 _
  have hne : ∀ (k j : Nat), k ≠ 1 → own j = k → ¬ j = c := fun k j hk hj e => hk (by rw [← hj, e, h.oc])
  exact { h with
    str := heap_setCell_same h.str 16 _
    ssd := h.ssd.keep hu (fun j hj => hne _ j (by decide) hj)
    back := h.back.keep hu (fun j hj => hne _ j (by decide) hj)
    jr := (Jn.thing _ _ _ _ _ _ _).keep h.jr hu (fun j hj => hne _ j (by decide) hj)
    ix := (Ix.thing _ _ _ _).keep h.ix hu (fun j hj => hne _ j (by decide) hj)
    ss := (Ss.thing _ _).keep h.ss hu (fun j hj => hne _ j (by decide) hj)
    lg := (Lg.thing _ _ _).keep h.lg hu (fun j hj => hne _ j (by decide) hj)
    ck := h.ck.keep hu (fun j hj => hne _ j (by decide) hj)
    sm := (Mp.thing _ _ _).keep h.sm hu (fun j hj => hne _ j (by decide) hj)
    far := fun j hj => h.far j (by simpa using hj)
    nib := h.nib.keep hu (hne _ _ (by decide) h.on)
    tur := h.tur.keep hu (hne _ _ (by decide) h.ot)
    wh := hx }
theorem CaAt.did1 (h : CaAt own w c n p a) (x : Value) : Did own own w (w.setCell ⟨c, 16, none⟩ x) := (Did.refl h.far).setCell ⟨c, 16, none⟩ (fun _ => by rw [show own c = 1 from h.oc]; exact ⟨by decide, by decide⟩) x
theorem CaAt.didNew (h : CaAt own w c n p a) (hu : Upd (fun _ => False) w w') : Did own own w w' := ⟨hu.mono (fun _ _ h => h.elim), fun _ _ => rfl, fun j hj => by rw [h.far j hj]; decide, fun j hj => h.far j (Nat.le_trans hu.size hj)⟩
end
def CaOut (own : Nat → Nat) (w : World) (c : Nat) (n : CaN) (p : CaP) (a : CaS) (v : Value) (e : Ending) (w' : World) : Prop :=
  e = .returned v ∧ ∃ own', CaAt own' w' c n p a ∧ Did own own' w w'
section
variable {own : Nat → Nat} {w w' : World} {c : Nat} {n : CaN} {p : CaP} {a : CaS}
theorem CaAt.cells (h : CaAt own w c n p a) : w.cell? ⟨c, 14, none⟩ = some (ptr p.ssd) ∧ w.cell? ⟨c, 15, none⟩ = some (ptr p.back) ∧ w.cell? ⟨c, 16, none⟩ = some (.int .i64 (a.which : Int)) ∧
    w.cell? ⟨c, 17, none⟩ = some (ptr p.jr) ∧ w.cell? ⟨c, 18, none⟩ = some (ptr p.ix) ∧ w.cell? ⟨c, 19, none⟩ = some (ptr p.ss) ∧ w.cell? ⟨c, 20, none⟩ = some (ptr p.lg) ∧ w.cell? ⟨c, 21, none⟩ = some (ptr p.ck) ∧ w.cell? ⟨c, 22, none⟩ = some (.map (some p.sm)) := by
  have hc := cell_of_block h.str
  exact ⟨hc 14, hc 15, hc 16, hc 17, hc 18, hc 19, hc 20, hc 21, hc 22⟩
theorem CaAt.sup (h : CaAt own w c n p a) : w.cell? ⟨c, 0, none⟩ = some (.int .i64 (n.id : Int)) ∧ w.cell? ⟨c, 1, none⟩ = some (.int .i64 (n.bl : Int)) ∧ w.cell? ⟨c, 2, none⟩ = some (.int .i64 (n.sl : Int)) ∧
    w.cell? ⟨c, 3, none⟩ = some (.int .i64 (n.jo : Int)) ∧ w.cell? ⟨c, 4, none⟩ = some (.int .i64 (n.pa : Int)) ∧ w.cell? ⟨c, 5, none⟩ = some (.int .i64 (n.lo : Int)) ∧ w.cell? ⟨c, 6, none⟩ = some (.int .i64 (n.ba : Int)) := by
  have hc := cell_of_block h.str
  exact ⟨hc 0, hc 1, hc 2, hc 3, hc 4, hc 5, hc 6⟩
theorem CaAt.lay (h : CaAt own w c n p a) : w.cell? ⟨c, 7, none⟩ = some (.int .i64 1) ∧ w.cell? ⟨c, 8, none⟩ = some (.int .i64 (1 + 2 * (n.pa : Int))) ∧ w.cell? ⟨c, 13, none⟩ = some (.int .i64 (1 + 2 * (n.pa : Int) + (n.jo : Int) + (n.lo : Int) + (n.lo : Int) + (n.lo : Int) + (n.sl : Int))) ∧
    w.cell? ⟨c, 12, none⟩ = some (.int .i64 (1 + 2 * (n.pa : Int) + (n.jo : Int) + (n.lo : Int) + (n.lo : Int) + (n.lo : Int))) := by
  have hc := cell_of_block h.str
  exact ⟨hc 7, hc 8, hc 13, hc 12⟩
theorem CaAt.fz (h : CaAt own w c n p a) (i : Nat) : w.frozen? ⟨c, i, none⟩ = false := frozen_of_block h.str i
theorem ca_ssd_flush (h : CaAt own w c n p a) : Calls Tryz.prog 46 #[ptr p.ssd] w (CaOut own w c n p { a with dF := (flushR a.dF a.dO a.dP).F, dO := (flushR a.dF a.dO a.dP).O, dP := (flushR a.dF a.dO a.dP).P } (.int .i64 (flushR a.dF a.dO a.dP).cd)) :=
  (dflushR h.open2 (fun _ h => .inr h)).mono fun _ _ ⟨he, hd, hu⟩ => ⟨he, _, h.turn2 hu hd (by simp only [flushR]; (repeat' split) <;> simp [flushF_len]), h.did2 hu⟩
theorem ca_back_flush (h : CaAt own w c n p a) : Calls Tryz.prog 46 #[ptr p.back] w (CaOut own w c n p { a with bF := (flushR a.bF a.bO a.bP).F, bO := (flushR a.bF a.bO a.bP).O, bP := (flushR a.bF a.bO a.bP).P } (.int .i64 (flushR a.bF a.bO a.bP).cd)) :=
  (dflushR h.open3 (fun _ h => .inr h)).mono fun _ _ ⟨he, hd, hu⟩ => ⟨he, _, h.turn3 hu hd (by simp only [flushR]; (repeat' split) <;> simp [flushF_len]), h.did3 hu⟩
theorem ca_jnext (h : CaAt own w c n p a) : Calls Tryz.prog 154 #[ptr p.jr] w fun e w' => e = .returned (.int .i64 (a.next : Int)) ∧ w = w' := jnext_any h.jr
end
theorem infoWz : (Tryz.prog.info? 289).map (fun i => (i.zero.map (fun z => (z.cells.size, z.cells.all (·.oneCell'))), i.size)) = some (some (65, true), 65) := by kernel_rfl
theorem infoWz_parts : ∃ i z, Tryz.prog.info? 289 = some i ∧ i.zero = some z ∧ z.cells.size = 65 ∧ z.cells.all (·.oneCell') = true ∧ i.size = 65 := by
  obtain ⟨i, hi, h⟩ := Option.map_eq_some_iff.1 infoWz
  simp only [Prod.mk.injEq] at h
  obtain ⟨h1, h2⟩ := h
  obtain ⟨z, hz, hs⟩ := Option.map_eq_some_iff.1 h1
  simp only [Prod.mk.injEq] at hs
  exact ⟨i, z, hi, hz, hs.1, hs.2, h2⟩
theorem run_clear_wt {w : World} {g off n cap : Nat} {cur : Array Value} (hg : w.heap[g]? = some (.cells cur 289 (0, 0))) (hs : off + n * 65 ≤ cur.size) (hn : 0 < n) :
    ∃ w', (∀ ty, (Builtin.clear_ #[274] ty #[.slice (some ⟨g, off, none⟩) n cap]).run Tryz.prog w = .ok (.tuple #[]) w') ∧ Upd (fun j => j = g) w w' ∧
      ∃ cur', w'.heap[g]? = some (.cells cur' 289 (0, 0)) ∧ cur'.size = cur.size := by
  obtain ⟨i, z, hi, hz, hzs, hz1, hsz⟩ := infoWz_parts
  have hlen : (Builtin.zeroCells z.cells n).toList.length = n * 65 := by simp [Builtin.zeroCells, hzs]
  have h1 : ∀ v ∈ (Builtin.zeroCells z.cells n).toList, v.oneCell' = true := by
    intro v hv
    simp only [Builtin.zeroCells, Array.toList_map, List.mem_map] at hv
    obtain ⟨k, hk, rfl⟩ := hv
    have : k % z.cells.size < z.cells.size := Nat.mod_lt _ (by omega)
    rw [getElem!_pos z.cells (k % z.cells.size) this]
    exact Array.all_eq_true.1 hz1 _ this
  have hst := run_storeCells_cells (P := Tryz.prog) g off (Builtin.zeroCells z.cells n).toList 0 w
    (fun j hj => by rw [hlen] at hj; rw [cell_of_block hg, Nat.add_zero, Array.getElem?_eq_getElem (by omega)]; rfl) (fun j hj => frozen_of_block hg _) h1
  simp only [Nat.add_zero] at hst
  obtain ⟨cur', h2, h3, -⟩ := heap_setCells_same (Builtin.zeroCells z.cells n).toList off w g cur _ _ hg
  have hzr : ∀ w, (zeroValue 289).run Tryz.prog w = .ok z w := fun w => by simp [zeroValue, typeInfo, hi, hz]
  refine ⟨_, fun ty => ?_, upd_setCells _ w g off _ rfl, cur', h2, h3⟩
  obtain ⟨m, rfl⟩ : ∃ m, n = m + 1 := ⟨n - 1, by omega⟩
  simp [Builtin.clear_, run_underlying Tryz.underlying274, hzr, hst]
abbrev covV (q : Nat) : Value := .func (.func 219) #[] #[.pointer (some ⟨q, 0, none⟩)]
set_option maxRecDepth 100000 in
theorem jidx {w : World} {next : Nat} {vw : Value} {W : List (Nat × Bk)} (h : WtAt w vw next W) (q : Nat) (s : Int) (hq : w.cell? ⟨q, 0, none⟩ = some (.int .i64 s)) (hs : s = (next : Int) - 1) :
    Calls Tryz.prog 285 #[vw, covV q] w fun e w' => e = .returned (.int .i64 (if W = [] then -1 else 0)) ∧ Below w.heap.size w w' := by
  by_cases h0 : W = []
  · subst h0
    rw [if_pos rfl]
    obtain ⟨ao, c, rfl⟩ := h.ws.rd.nil_iff
    clear h
    go_enter Tryz.func285, Tryz.ntmps285
    go_wp2
    go_loop [8] (fun i => i = .int .i64 0) (fun _ => 0)
    case atStart => rfl
    case round =>
      subst hrel
      go_wp2
      go_ret
      exact ⟨rfl, Below.refl _ _⟩
  · rw [if_neg h0]
    have hl : 0 < W.length := by cases W with | nil => exact absurd rfl h0 | cons a l => simp
    obtain ⟨g, off, cap, rfl, hgl, hcap, hr⟩ := h.range hl
    have hlt := h.lt W[0] (List.getElem_mem hl)
    have h64 := h.w64 W[0] (List.getElem_mem hl)
    have hwl := h.wl
    have hmx := h.mx
    rw [Nat.zero_mul, Nat.add_zero] at hr
    have b1 : (0 : Int) < (W.length : Int) := by omega
    have hc := jcov1 w q s hq W[0].1 W[0].2 (by omega)
    generalize W[0].1 = x at *
    generalize W[0].2 = y at *
    have HC := Lib.hid hc
    clear h h0 hc hs hq hlt
    generalize W.length = m at *
    go_enter Tryz.func285, Tryz.ntmps285
    go_wp2
    go_loop [8] (fun i => i = .int .i64 0) (fun _ => 0)
    case atStart => rfl
    case round =>
      subst hrel
      go_wp2_with (first
        | refine wpList_load_mid rfl _ _ rfl _ _ rfl _ _ hr Tryz.underlying289 rfl (sizeWt _ _ h64) ?_
        | fail)
      refine HC.out.mono ?_
      rintro e w' ⟨rfl, hb⟩
      go_wp2
      go_ret
      exact ⟨rfl, hb⟩
def DelPost (w : World) (vw : Value) (e : Ending) (w' : World) : Prop := ∃ v', e = .returned v' ∧ Sl w' 289 65 v' 0 [] ∧ v'.ownBlock = vw.ownBlock ∧ Upd (fun k => vw.ownBlock = some k) w w'
set_option maxRecDepth 100000 in
set_option maxHeartbeats 1000000 in
theorem jdel {w : World} {next : Nat} {vw : Value} {W : List (Nat × Bk)} (h : WtAt w vw next W) (q : Nat) (s : Int) (hq : w.cell? ⟨q, 0, none⟩ = some (.int .i64 s)) (hqn : vw.ownBlock ≠ some q) (hs : s = (next : Int) - 1) :
    Calls Tryz.prog 218 #[vw, covV q] w (DelPost w vw) := by
  have HI := Lib.hid (jidx h q s hq hs)
  by_cases h0 : W = []
  · subst h0
    rw [if_pos rfl] at HI
    have HH := Lib.hid h
    clear h hq hs hqn
    go_enter Tryz.func218, Tryz.ntmps218
    go_wp2_with fail
    refine HI.out.mono ?_
    rintro e w' ⟨rfl, hb⟩
    go_wp2
    go_ret
    exact ⟨vw, rfl, (HH.out.new (Upd.of_below hb)).ws, rfl, (Upd.of_below hb)⟩
  · rw [if_neg h0] at HI
    have hl : 0 < W.length := by cases W with | nil => exact absurd rfl h0 | cons a l => simp
    obtain ⟨-, ⟨_, h2⟩ | ⟨g, off, cap, cur, rfl, hg, hcap, hcm, hsz, -⟩⟩ := h.ws
    · omega
    unfold maxLen at hcm
    have hwl := h.wl
    have hmx := h.mx
    have HH := Lib.hid (And.intro h (And.intro hq (And.intro hs (And.intro hg (And.intro hsz hqn)))))
    clear h hq hs h0 hg hsz hqn
    go_enter Tryz.func218, Tryz.ntmps218
    go_wp2_with fail
    refine HI.out.mono ?_
    rintro e w1 ⟨rfl, hb⟩
    have hu1 : Upd (fun _ => False) w w1 := Upd.of_below hb
    clear hb
    go_wp2
    go_loopw [5, 6] (fun s5 s6 wr => ∃ k : Nat, 1 ≤ k ∧ k ≤ W.length ∧ s5 = .int .i64 0 ∧ s6 = .int .i64 k ∧ Upd (fun _ => False) w wr) (fun _ s6 _ => W.length - (intOf s6).toNat)
    case atStart => exact ⟨1, by omega, by omega, rfl, rfl, hu1⟩
    case round =>
      obtain ⟨k, hk1, hk, rfl, rfl, hu⟩ := hrel
      by_cases hlt : k < W.length
      · obtain ⟨h, hq, hs, hg, hsz, hqn⟩ := HH.out
        obtain ⟨g', off', cap', e1, hgl, hcap', hr⟩ := (h.new hu).range hlt
        cases e1
        have hlw := h.lt W[k] (List.getElem_mem hlt)
        have h64 := h.w64 W[k] (List.getElem_mem hlt)
        have b1 : (0 : Int) ≤ (k : Int) := by omega
        have b2 : (k : Int) < (W.length : Int) := by omega
        have hqw : wr.cell? ⟨q, 0, none⟩ = some (.int .i64 s) := hu.cellv hq (fun h => h)
        have hu2 : Upd (fun _ => False) w (wr.alloc (.cells (wrC (W[k].1 : Int) W[k].2).toArray 289)) := hu.alloc _
        have hr2 := range_of_block (heap_alloc_last wr (.cells (wrC (W[k].1 : Int) W[k].2).toArray 289) rfl)
        have hc := jcov1 (wr.alloc (.cells (wrC (W[k].1 : Int) W[k].2).toArray 289)) q s (cell_keep_alloc hqw _) W[k].1 W[k].2 (by omega)
        generalize W[k].1 = x at *
        generalize W[k].2 = y at *
        have HC := Lib.hid (And.intro hc hu2)
        clear h hc hs hq hlw hu hg hsz hqn hqw hu2
        go_wp2_with (first
          | refine wpList_load_mid rfl _ _ rfl _ _ rfl _ _ hr Tryz.underlying289 rfl (sizeWt _ _ h64) ?_
          | refine wpList_load_mid rfl _ _ rfl _ _ rfl _ _ hr2 Tryz.underlying289 rfl (sizeWt _ _ h64) ?_
          | (refine wpList_store_new rfl _ _ _ rfl _ _ _ rfl rfl (by rw [zero_wt, wrC_len, h64]) (sizeWt _ _ h64) (wrC_one _ _) ?_)
          | fail)
        refine HC.out.1.mono ?_
        rintro e w3 ⟨rfl, hb3⟩
        have hu3 : Upd (fun _ => False) w w3 := HC.out.2.trans (Upd.of_below hb3)
        clear hb3
        go_wp2
        go_roundw
        case rel => exact ⟨k + 1, by omega, by omega, rfl, by go_num, hu3⟩
        case measure => simp [intOf]; omega
      · obtain rfl : k = W.length := by omega
        obtain ⟨h, hq, hs, hg, hsz, hqn⟩ := HH.out
        have hg2 := (hu.block _ (lt_of_block hg) (fun h => h)).trans hg
        have hle := Nat.mul_le_mul_right 65 hcap
        obtain ⟨w3, hrun, hu3, cur3, hg3, hz3⟩ := run_clear_wt (off := off) (n := W.length) (cap := cap) hg2 (by omega) hl
        have HF := Lib.hid (And.intro hu (And.intro hu3 (And.intro hg3 (And.intro hz3 hsz))))
        clear h hq hs hg hsz hqn hu hu3 hg3 hg2 hz3 hle
        go_wp2
        go_ret
        refine ⟨_, rfl, ⟨by simp, .inr ⟨g, off, cap, cur3, rfl, HF.out.2.2.1, by omega, by unfold maxLen; omega, by rw [HF.out.2.2.2.1]; exact HF.out.2.2.2.2, by simp⟩⟩, rfl, (HF.out.1.mono (fun _ _ h => h.elim)).trans (HF.out.2.1.mono (fun k _ e => by simp [Value.ownBlock, e]))⟩
def CovPost (S : Nat → Prop) (w : World) (j d base n next : Nat) (e : Ending) (w' : World) : Prop := e = .returned (.int .i64 0) ∧ Jn S w' j d base n (next - 1) next [] ∧ Upd S w w'
set_option maxRecDepth 100000 in
set_option maxHeartbeats 1000000 in
theorem jcover {S : Nat → Prop} {w : World} {j d base n cov next : Nat} {W : List (Nat × Bk)} (h : Jn S w j d base n cov next W) (s : Int) (hs : s = (next : Int) - 1) :
    Calls Tryz.prog 155 #[.pointer (some ⟨j, 0, none⟩), .int .i64 s] w (CovPost S w j d base n next) := by
  obtain ⟨vw, h, hS⟩ := h
  have hu1 : Upd (fun _ => False) w (w.alloc (.cells #[.int .i64 s] 3)) := (Upd.refl _ w).alloc _
  have hq : (w.alloc (.cells #[.int .i64 s] 3)).cell? ⟨w.heap.size, 0, none⟩ = some (.int .i64 s) := cell_of_block (heap_alloc_last w _ rfl) 0
  have hd1 := h.new hu1
  have hjl := lt_of_block h.str
  have hwl := h.good.wl
  have hmx := h.good.mx
  have hmf : ∀ (fn : Fn) (first cap : Array Value) (w : World), (Instr.makeFunc fn first cap).run Tryz.prog w = .ok (.func fn first cap) w := fun _ _ _ _ => rfl
  have q1 : decide (s < (cov : Int)) = false := by simp; omega
  have q2 : decide ((next : Int) ≤ s) = false := by simp; omega
  have hqn : vw.ownBlock ≠ some w.heap.size := fun e => by have := h.ws.lt e; omega
  have HA := Lib.hid (And.intro h (And.intro hu1 (And.intro hqn (And.intro hs hS))))
  clear h hqn hs hS
  go_enter Tryz.func155, Tryz.ntmps155
  go_wp2_with fail
  have HD := Lib.hid (And.intro hd1 hq)
  generalize hW1 : w.alloc (.cells #[.int .i64 s] 3) = w1 at *
  have hm : w.heap.size < w1.heap.size := by rw [← hW1]; simp
  clear hW1
  obtain ⟨c0, c1, c2, c3, c4, c5⟩ := hd1.c
  clear hd1 hu1
  go_quiet (fail)
  have hu2 : Upd (fun _ => False) w1 (w1.drewN nq) := (Upd.refl _ _).drewN nq
  generalize w1.drewN nq = w2 at *
  obtain ⟨h, hu1, hqn, hs, hS⟩ := HA.out
  have hd2 := HD.out.1.new hu2
  have hq2 : w2.cell? ⟨w.heap.size, 0, none⟩ = some (.int .i64 s) := hu2.cellv HD.out.2 (fun h => h)
  clear c0 c1 c2 c3 c4 c5
  obtain ⟨c0, c1, c2, c3, c4, c5⟩ := hd2.c
  have f3 := hd2.fz 3
  have hs3 := heap_setCell_same hd2.str 3 (.int .i64 s)
  have hu3 := upd_setCell w2 j 3 (.int .i64 s)
  have hq3 : (w2.setCell ⟨j, 3, none⟩ (.int .i64 s)).cell? ⟨w.heap.size, 0, none⟩ = some (.int .i64 s) := (hu3.cellv hq2 (by omega))
  have hne : vw.ownBlock ≠ some j := hd2.wb
  have hw3 := hd2.wt.keep hu3 (fun k hk e => hne (by rw [hk, e]))
  have HB := Lib.hid (jdel hw3 w.heap.size s hq3 hqn hs)
  have HC := Lib.hid (And.intro hd2 (And.intro hu2 (And.intro hs3 (And.intro hu3 (And.intro hu1 (And.intro hS (And.intro hs hqn)))))))
  have c0' := c0
  have c5' : (w2.setCell ⟨j, 3, none⟩ (.int .i64 s)).cell? ⟨j, 5, none⟩ = some vw := by rw [cell_of_block hs3]; rfl
  obtain ⟨ao, c, hv⟩ := hd2.ws.rd.nil_iff
  clear hd2 hu2 hs3 hu3 hu1 hS hs hqn hw3 hne hq3 h c1 c2 c4 c0'
  subst hv
  generalize hW3 : w2.setCell ⟨j, 3, none⟩ (.int .i64 s) = w3 at *
  go_wp2_with fail
  refine HB.out.mono ?_
  rintro e w4 ⟨v4, rfl, hs4, ho4, hu4⟩
  obtain ⟨ao4, c4, rfl⟩ := hs4.rd.nil_iff
  obtain ⟨hd2, hu2, hs3, hu3, hu1, hS, hs, hqn⟩ := HC.out
  have hs4' := (hu4.block _ (lt_of_block hs3) hd2.wb).trans hs3
  have d0 : w4.cell? ⟨j, 5, none⟩ = some (.slice ao W.length c) := by rw [cell_of_block hs4']; rfl
  have d1 := frozen_of_block hs4' 5
  have HE := Lib.hid (And.intro hs4 (And.intro ho4 (And.intro hu4 hs4')))
  clear hs4 ho4 hu4 hs4' hd2 hu2 hs3 hu3 hu1 hS hs hqn c0 c3 c5 c5' f3 hq2
  go_wp2
  go_ret
  obtain ⟨hd2, hu2, hs3, hu3, hu1, hS, hs, hqn⟩ := HC.out
  obtain ⟨hs4, ho4, hu4, hs4'⟩ := HE.out
  have hu5 := upd_setCell w4 j 5 (.slice ao4 0 c4)
  have h5 := heap_setCell_same hs4' 5 (.slice ao4 0 c4)
  have hnb : (Value.slice ao4 0 c4).ownBlock ≠ some j := by rw [ho4]; exact hd2.wb
  have hgd := hd2.good
  have hss : s = ((next - 1 : Nat) : Int) := by have := hgd.wl; omega
  refine ⟨rfl, ⟨.slice ao4 0 c4, ⟨?_, hs4.keep_ne hu5 hnb, hnb, ⟨by simp, by simp, hgd.n1, by simp; have := hgd.wl; omega, by have := hgd.n1; omega, hgd.mx, hgd.bs⟩⟩, ?_⟩, ?_⟩
  · rw [h5, ← hss]
    rfl
  · rintro k (rfl | hk)
    · exact hS _ (.inl rfl)
    · rw [ho4] at hk; exact hS _ (.inr hk)
  · have a1 : Upd S w w2 := (hu1.trans hu2).mono (fun _ _ h => h.elim)
    have a2 : Upd S w2 w3 := hu3.mono (fun k _ e => e ▸ hS j (.inl rfl))
    have a3 : Upd S w3 w4 := hu4.mono (fun k _ e => hS k (.inr e))
    have a4 : Upd S w4 (w4.setCell ⟨j, 5, none⟩ (.slice ao4 0 c4)) := hu5.mono (fun k _ e => e ▸ hS j (.inl rfl))
    exact ((a1.trans a2).trans a3).trans a4
section
variable {own : Nat → Nat} {w w' : World} {c : Nat} {n : CaN} {p : CaP} {a : CaS}
theorem putG_len (G : List (Int → Bool)) (k : Nat) (x : Int) : (putG G k x).length = G.length := by simp [putG]
theorem ca_lput (h : CaAt own w c n p a) (k : Nat) (hk : k < n.sl) (x : Int) (hx : x = -1 ∨ (0 ≤ x ∧ x < (n.bl : Int))) :
    Calls Tryz.prog 202 #[ptr p.lg, .int .i64 (k : Int), .int .i64 x] w (CaOut own w c n p { a with G := putG a.G k x } (.int .i64 0)) :=
  (lput h.open7 k (by rw [h.Gl]; exact hk) x hx).mono fun _ _ ⟨he, hd, hu⟩ => ⟨he, _, h.turn7 hu hd (putG_len _ _ _), h.did7 hu⟩
theorem ca_cover (h : CaAt own w c n p a) (s : Int) (hs : s = (a.next : Int) - 1) :
    Calls Tryz.prog 155 #[ptr p.jr, .int .i64 s] w (CaOut own w c n p { a with cov := a.next - 1, W := [] } (.int .i64 0)) :=
  (jcover h.open4 s hs).mono fun _ _ ⟨he, hd, hu⟩ => ⟨he, _, h.turn4 hu hd, h.did4 hu⟩
def anyA : Int → Bool := updB (fun _ => false) (-1) true
def anyTo (G : List (Int → Bool)) (k : Nat) : List (Int → Bool) := List.replicate k anyA ++ G.drop k
theorem anyTo_zero (G : List (Int → Bool)) : anyTo G 0 = G := by simp [anyTo]
theorem anyTo_all (G : List (Int → Bool)) : anyTo G G.length = List.replicate G.length anyA := by simp [anyTo]
theorem modify_mid {α : Type} (f : α → α) : ∀ (l : List α) (x : α) (r : List α), (l ++ x :: r).modify l.length f = l ++ f x :: r
  | [], _, _ => by simp
  | y :: l, x, r => by simpa using modify_mid f l x r
theorem anyTo_step {G : List (Int → Bool)} {k : Nat} (h : k < G.length) : putG (anyTo G k) k (-1) = anyTo G (k + 1) := by
  have e : G.drop k = G[k] :: G.drop (k + 1) := List.drop_eq_getElem_cons h
  have := modify_mid (fun A => putA A (-1)) (List.replicate k anyA) G[k] (G.drop (k + 1))
  rw [List.length_replicate] at this
  unfold putG anyTo
  rw [e, this, List.replicate_succ', List.append_assoc]
  simp [putA, anyA]
def LoadOut (own : Nat → Nat) (w : World) (c : Nat) (n : CaN) (p : CaP) (a : CaS) (e : Ending) (w' : World) : Prop := CaOut own w c n p { a with G := List.replicate n.sl anyA } (.int .i64 0) e w'
set_option maxRecDepth 100000 in
theorem load_nil (h : CaAt own w c n p a) : Calls Tryz.prog 136 #[ptr c, .slice none 0 0] w (LoadOut own w c n p a) := by
  have hs2 := h.ok.s2
  obtain ⟨s0, s1, s2, s3, s4, s5, s6⟩ := h.sup
  have HC := Lib.hid h
  clear h s0 s1 s3 s4 s5 s6
  go_enter Tryz.func136, Tryz.ntmps136
  go_wp2_with fail
  go_loopw [5, 15] (fun _ s15 wr => ∃ k own1, k ≤ n.sl ∧ s15 = .int .i64 (k : Int) ∧ CaAt own1 wr c n p { a with G := anyTo a.G k } ∧ Did own own1 w wr) (fun _ s15 _ => n.sl - (intOf s15).toNat)
  case atStart => exact ⟨0, own, Nat.zero_le _, rfl, by rw [anyTo_zero]; exact HC.out, Did.refl HC.out.far⟩
  case round =>
    obtain ⟨k, own1, hk, rfl, hca, hdid⟩ := hrel
    by_cases hlt : k < n.sl
    · obtain ⟨d0, d1, d2, d3, d4, d5, d6, d7, d8⟩ := hca.cells
      have HP := Lib.hid (ca_lput hca k hlt (-1) (.inl rfl))
      have HD := Lib.hid hdid
      clear hca hdid d0 d1 d2 d3 d4 d5 d7 d8 s2
      go_wp2_with fail
      refine HP.out.mono ?_
      rintro e w1 ⟨rfl, own2, hca2, hdid2⟩
      have HE := Lib.hid (And.intro hca2 hdid2)
      clear hca2 hdid2
      go_wp2
      go_roundw
      case rel =>
        refine ⟨k + 1, own2, by omega, by go_num, ?_, HD.out.trans HE.out.2⟩
        have := HE.out.1
        simp only [anyTo_step (show k < a.G.length by rw [HC.out.Gl]; exact hlt)] at this
        exact this
      case measure => simp [intOf]; omega
    · obtain rfl : k = n.sl := by omega
      have HD := Lib.hid (And.intro hca hdid)
      clear hca hdid s2
      go_wp2
      go_loopw [27] (fun s27 wr' => s27 = .int .i64 0 ∧ wr' = wr) (fun _ _ => 0)
      case atStart => exact ⟨rfl, rfl⟩
      case round =>
        obtain ⟨rfl, rfl⟩ := hrel
        go_wp2
        go_ret
        refine ⟨rfl, own1, ?_, HD.out.2⟩
        have := HD.out.1
        rw [← HC.out.Gl, anyTo_all, HC.out.Gl] at this
        exact this
end
theorem infoWrT : (Tryz.prog.info? 289).map (fun i => (i.zero.map (·.cells.size), i.size, i.bytes)) = some (some 65, 65, 72) := by kernel_rfl
theorem placesWrT : (match Tryz.prog.underlying 289 with | some (.struct fs) => fs.toList.mapM (fun f => (Tryz.prog.info? f.type).map fun i => (f.offset, i.size)) | _ => none) = some [(0, 1), (1, 64)] := by kernel_rfl
theorem infoWr_partsT : ∃ i z, Tryz.prog.info? 289 = some i ∧ i.zero = some z ∧ z.cells.size = 65 ∧ i.size = 65 ∧ i.bytes = 72 := by
  obtain ⟨i, hi, h⟩ := Option.map_eq_some_iff.1 infoWrT
  simp only [Prod.mk.injEq] at h
  obtain ⟨h1, h2, h3⟩ := h
  obtain ⟨z, hz, hs⟩ := Option.map_eq_some_iff.1 h1
  exact ⟨i, z, hi, hz, hs, h2, h3⟩
set_option maxRecDepth 100000 in
theorem run_build_wrT (p q : Value) (hp : p.cells.size = 1) (hq : q.cells.size = 64) (w : World) : (Instr.build 289 #[(0, p), (1, q)]).run Tryz.prog w = .ok (.agg (p.cells.toList ++ q.cells.toList).toArray) w := by
  refine run_build w _ _ _ ?_
  obtain ⟨i, z, hi, hz, hs, _, _⟩ := infoWr_partsT
  have hpl := placesWrT
  have hu := Tryz.underlying289
  unfold Program.built
  rw [hu] at hpl
  rw [hi, hu]
  simp only [hz]
  simp only at hpl
  rw [hpl]
  exact fill_two p q hp hq z.cells hs _ rfl rfl
set_option maxRecDepth 100000 in
theorem run_row_wrT (v : Value) (hv : v.cells.size = 65) (w : World) : (Instr.buildSlice 274 1 #[(0, v)]).run Tryz.prog w = .ok (.slice (some ⟨w.heap.size, 0, none⟩) 1 1) (w.alloc (.cells v.cells 289)) := by
  obtain ⟨i, z, hi, hz, hs, hsz, _⟩ := infoWr_partsT
  refine run_buildSlice w _ _ 1 _ _ i z Tryz.underlying274 hi hz (by rw [hsz]; decide) (by rw [hsz]; decide) ?_
  obtain ⟨a1, a2⟩ := fold_cells 0 v.cells ((Array.range (1 * i.size)).map (z.cells[· % z.cells.size]!))
  rw [show (#[(0, v)] : Array (Nat × Value)).toList = [(0, v)] from rfl]
  rw [fill_step _ _ 0 0 65 v _ (by simp [hsz]) hv (by simp [hsz])]
  show some _ = _
  congr 1
  apply Array.ext_getElem?
  intro k
  rw [a2 k]
  by_cases hk : k < 65
  · rw [if_pos ⟨by omega, by omega, by simp [hsz]; omega⟩]; rfl
  · rw [if_neg (by omega), Array.getElem?_eq_none (by simp [hsz]; omega), Array.getElem?_eq_none (by omega)]
theorem wp_build_wrT (dst : Option Tmp) (ty : TypeId) (pos : String) (after : Array Edge) (p q : Operand) (a : Act) (w : World) (K : Act → World → Prop) (Q : Exit → Act → World → Prop) (hp : (a.eval p).cells.size = 1) (hq : (a.eval q).cells.size = 64) :
    Oper.wp Tryz.prog { dst := dst, op := .build 289 #[(0, p), (1, q)], type := ty, pos := pos, after := after, guard := none } a w K Q = K (a.put dst (.agg ((a.eval p).cells.toList ++ (a.eval q).cells.toList).toArray)) w := by
  unfold Oper.wp execOp
  have := run_build_wrT (a.eval p) (a.eval q) hp hq w
  simp only [List.map_toArray, List.map_cons, List.map_nil, Sem.run_bind, this, Result.andThen_ok]
  rfl
theorem wp_row_wrT (dst : Option Tmp) (ty : TypeId) (pos : String) (after : Array Edge) (p : Operand) (a : Act) (w : World) (K : Act → World → Prop) (Q : Exit → Act → World → Prop) (hp : (a.eval p).cells.size = 65) :
    Oper.wp Tryz.prog { dst := dst, op := .buildSlice 274 1 #[(0, p)], type := ty, pos := pos, after := after, guard := none } a w K Q = K (a.put dst (.slice (some ⟨w.heap.size, 0, none⟩) 1 1)) (w.alloc (.cells (a.eval p).cells 289)) := by
  unfold Oper.wp execOp
  have := run_row_wrT (a.eval p) hp w
  simp only [List.map_toArray, List.map_cons, List.map_nil, Sem.run_bind, this, Result.andThen_ok]
  rfl
set_option maxRecDepth 100000 in
theorem run_build_mapT (a : Act) (p q : Operand) (w : World) (hp : (a.eval p).cells.size = 1) (hq : (a.eval q).cells.size = 64) :
    (Instr.build 289 ((#[(0, p), (1, q)] : Array (Nat × Operand)).map fun (i, x) => (i, a.eval x))).run Tryz.prog w = .ok (.agg ((a.eval p).cells.toList ++ (a.eval q).cells.toList).toArray) w := by
  have := run_build_wrT (a.eval p) (a.eval q) hp hq w
  simp only [List.map_toArray, List.map_cons, List.map_nil]
  exact this
set_option maxRecDepth 100000 in
theorem run_row_mapT (a : Act) (p : Operand) (w : World) (hp : (a.eval p).cells.size = 65) :
    (Instr.buildSlice 274 1 ((#[(0, p)] : Array (Nat × Operand)).map fun (i, x) => (i, a.eval x))).run Tryz.prog w = .ok (.slice (some ⟨w.heap.size, 0, none⟩) 1 1) (w.alloc (.cells (a.eval p).cells 289)) := by
  have := run_row_wrT (a.eval p) hp w
  simp only [List.map_toArray, List.map_cons, List.map_nil]
  exact this
theorem built_wrT (s : Int) (x : Bk) (hx : x.length = 64) : List.foldl (fun (cs : Array Value) (x : Value × Nat) => cs.setIfInBounds (1 + x.2) x.1) (Tryz.zeroCells289.setIfInBounds 0 (.int .i64 s)) (bkC x).zipIdx = (wrC s x).toArray := by
  have hb : (bkC x).length = 64 := by rw [bkC_len, hx]
  have hz1 : (Tryz.zeroCells289.setIfInBounds 0 (.int .i64 s)).size = 65 := by rw [Array.size_setIfInBounds, zero_wt]
  obtain ⟨_, f2⟩ := Go.Great.foldl_set 1 (bkC x) 0 (Tryz.zeroCells289.setIfInBounds 0 (.int .i64 s))
  apply Array.ext_getElem?
  intro k
  rw [f2 k, hz1]
  by_cases hk : k < 65
  · by_cases hk0 : k = 0
    · subst hk0
      rw [if_neg (by omega), Array.getElem?_setIfInBounds_self_of_lt (by rw [zero_wt]; omega)]
      simp
    · rw [if_pos ⟨by omega, by omega, hk⟩]
      obtain ⟨m, rfl⟩ : ∃ m, k = m + 1 := ⟨k - 1, by omega⟩
      simp
  · rw [if_neg (by omega), Array.getElem?_eq_none (by omega), Array.getElem?_eq_none (by simp [hb]; omega)]
def byV (n i : Nat) : Value := .int .u8 (((UInt8.ofNat (n / 256 ^ i)).toNat : Nat) : Int)
theorem byV_eq (n k : Nat) : Value.int .u8 ((n : Int) / 2 ^ (8 * k) % 256) = byV n k := by
  unfold byV
  have h1 : (UInt8.ofNat (n / 256 ^ k)).toNat = n / 256 ^ k % 256 := by simp
  have h2 : (256 : Nat) ^ k = 2 ^ (8 * k) := by rw [Nat.pow_mul]
  rw [h1, h2, Int.natCast_emod, Int.natCast_ediv, Int.natCast_pow]
  rfl
set_option maxRecDepth 100000 in
set_option maxHeartbeats 1000000 in
theorem low_any {w : World} (n size : Nat) (_hn : n < 72057594037927936) (hs : size ≤ 7) (fd : Nat) (caps : Array Value) (hent : ∀ args w, (callFunc fd args).run Tryz.prog w = .ok (.enter fd args) w)
    (J : Nat → World → Prop) (h0 : J 0 w) (hput : ∀ i, i < size → ∀ w, J i w → Calls Tryz.prog fd (#[byV n i] ++ caps) w fun e w' => e = .returned (.tuple #[]) ∧ J (i + 1) w') :
    Calls Tryz.prog 194 #[.int .i64 (n : Int), .int .i64 (size : Int), .func (.func fd) #[] caps] w fun e w' => e = .returned (.tuple #[]) ∧ J size w' := by
  have H := Lib.hid (And.intro h0 hput)
  clear h0 hput
  go_enter Tryz.func194, Tryz.ntmps194
  go_wp2
  go_step3
  go_wp2
  go_step3
  go_wp2
  go_loopw [6] (fun i wr => ∃ k : Nat, k ≤ size ∧ i = .int .i64 k ∧ J k wr) (fun i _ => size - (intOf i).toNat)
  case atStart => exact ⟨0, Nat.zero_le _, rfl, H.out.1⟩
  case round =>
    obtain ⟨k, hk, rfl, hJ⟩ := hrel
    have HJ := Lib.hid hJ
    clear hJ
    by_cases hlt : k < size
    · have hq : ((k : Int) == (size : Int)) = false := by rw [beq_eq_false_iff_ne]; omega
      go_wp2_with fail
      rw [byV_eq]
      refine (H.out.2 k hlt wr HJ.out).mono ?_
      rintro e w2 ⟨rfl, hJ2⟩
      have HJ2 := Lib.hid hJ2
      clear hJ2
      go_wp2
      go_roundw
      case rel => exact ⟨k + 1, by omega, by go_num, HJ2.out⟩
      case measure => simp [intOf]; omega
    · obtain rfl : k = size := by omega
      go_wp2
      try rw [Exit.noGoto_normal]
      go_end0
      exact ⟨rfl, HJ.out⟩
theorem may_ok (n size left : Nat) (h1 : 1 ≤ size) (h2 : size ≤ 7) (hn : n < 256 ^ size) (hl : size ≤ left) (_hl2 : left ≤ 60) (w : World) :
    Calls Tryz.prog 192 #[.int .i64 (n : Int), .int .i64 (size : Int), .int .i64 (left : Int)] w fun e w' => e = .returned (.int .i64 0) ∧ w' = w := by
  have hsh : Hid ((n : Int) / 2 ^ (8 * size) = 0) := by
    show _ = _
    have e : (256 : Nat) ^ size = 2 ^ (8 * size) := by rw [Nat.pow_mul]
    rw [e] at hn
    have : ((n / 2 ^ (8 * size) : Nat) : Int) = 0 := by rw [Nat.div_eq_of_lt hn]; rfl
    rw [Int.natCast_ediv, Int.natCast_pow] at this
    exact this
  have hn2 : n < 72057594037927936 := Nat.lt_of_lt_of_le hn (Nat.pow_le_pow_right (n := 256) (by omega) h2)
  clear hn
  have q1 : decide ((size : Int) < 1) = false := by simp; omega
  have q2 : decide ((7 : Int) < (size : Int)) = false := by simp; omega
  have q3 : decide ((n : Int) < 0) = false := by simp
  have q4 := hsh.out
  go_enter Tryz.func192, Tryz.ntmps192
  go_wp2
  go_ret
  exact ⟨rfl, rfl⟩
def padB (bs : List UInt8) : Bk := bs ++ List.replicate (64 - bs.length) 0
theorem padB_len {bs : List UInt8} (h : bs.length ≤ 64) : (padB bs).length = 64 := by simp [padB]; omega
theorem padB_snoc {bs : List UInt8} (h : bs.length < 64) (b : UInt8) : padB (bs ++ [b]) = (padB bs).set bs.length b := by
  unfold padB
  have e : 64 - bs.length = (64 - (bs ++ [b]).length) + 1 := by simp; omega
  rw [e, List.replicate_succ, List.set_append_right _ _ (Nat.le_refl _)]
  simp
theorem lowB_snoc (n i : Nat) : lowB n (i + 1) = lowB n i ++ [UInt8.ofNat (n / 256 ^ i)] := by
  induction i generalizing n with
  | zero => simp [lowB]
  | succ i ih =>
    have h1 := ih (n / 256)
    show UInt8.ofNat n :: lowB (n / 256) (i + 1) = (UInt8.ofNat n :: lowB (n / 256) i) ++ _
    rw [h1, List.cons_append, Nat.div_div_eq_div_mul, Nat.pow_succ, Nat.mul_comm]
theorem bkC_set (x : Bk) (i : Nat) (b : UInt8) : bkC (x.set i b) = (bkC x).set i (Go.Extern.Stop.cell b) := by simp [bkC, List.map_set]
def WrAt (w : World) (g : Nat) (bs : List UInt8) : Prop :=
  bs.length ≤ 60 ∧ w.heap[g]? = some (.cells (bkC (padB bs) ++ [Value.int .i64 (bs.length : Int), Value.int .i64 0]).toArray 316 (0, 0))
section
variable {w w' : World} {g : Nat} {bs : List UInt8}
theorem WrAt.lt (h : WrAt w g bs) : g < w.heap.size := lt_of_block h.2
theorem WrAt.keep (h : WrAt w g bs) {S : Nat → Prop} (hu : Upd S w w') (hs : ¬ S g) : WrAt w' g bs := ⟨h.1, (hu.block g h.lt hs).trans h.2⟩
theorem WrAt.len (h : WrAt w g bs) : (bkC (padB bs)).length = 64 := by rw [bkC_len, padB_len (by have := h.1; omega)]
theorem WrAt.c64 (h : WrAt w g bs) : w.cell? ⟨g, 64, none⟩ = some (.int .i64 (bs.length : Int)) := by
  rw [cell_of_block h.2, List.getElem?_toArray, List.getElem?_append_right (by rw [h.len]; omega), h.len]; rfl
theorem WrAt.c65 (h : WrAt w g bs) : w.cell? ⟨g, 65, none⟩ = some (.int .i64 0) := by
  rw [cell_of_block h.2, List.getElem?_toArray, List.getElem?_append_right (by rw [h.len]; omega), h.len]; rfl
theorem WrAt.fz (h : WrAt w g bs) (i : Nat) : w.frozen? ⟨g, i, none⟩ = false := frozen_of_block h.2 i
theorem WrAt.range (h : WrAt w g bs) : w.rangeAt g 0 (bkC (padB bs)) := fun j v hv => by
  have hj := (List.getElem?_eq_some_iff.1 hv).1
  rw [cell_of_block h.2, Nat.zero_add, List.getElem?_toArray, List.getElem?_append_left hj]; exact hv
theorem WrAt.some (h : WrAt w g bs) {i : Nat} (hi : i < 66) : ∃ v, w.cell? ⟨g, i, none⟩ = some v := by
  rw [cell_of_block h.2, List.getElem?_toArray]
  exact ⟨_, List.getElem?_eq_getElem (by rw [List.length_append, h.len]; exact hi)⟩
theorem WrAt.push (h : WrAt w g bs) (hl : bs.length < 60) (b : UInt8) (hw : Upd (fun _ => False) (w.setCell ⟨g, bs.length, none⟩ (Go.Extern.Stop.cell b)) w') :
    WrAt (w'.setCell ⟨g, 64, none⟩ (.int .i64 ((bs ++ [b]).length : Int))) g (bs ++ [b]) := by
  refine ⟨by simp; omega, ?_⟩
  have h1 := heap_setCell_same h.2 bs.length (Go.Extern.Stop.cell b)
  have h2 := (hw.block g (lt_of_block h1) (fun h => h)).trans h1
  have h3 := heap_setCell_same h2 64 (.int .i64 ((bs ++ [b]).length : Int))
  rw [h3]
  congr 2
  rw [List.setIfInBounds_toArray, List.setIfInBounds_toArray, List.set_append_left _ _ (by rw [h.len]; omega), ← bkC_set, ← padB_snoc (by omega)]
  have hl2 : (bkC (padB (bs ++ [b]))).length = 64 := by rw [bkC_len, padB_len (by simp; omega)]
  rw [List.set_append_right _ _ (by omega), hl2]
  rfl
end
set_option maxRecDepth 100000 in
set_option maxHeartbeats 1000000 in
theorem wput1 {w : World} {g g0 : Nat} {bs : List UInt8} (h : WrAt w g bs) (hl : bs.length < 60) (b : UInt8) (hc : w.cell? ⟨g0, 0, none⟩ = some (.pointer (some ⟨g, 0, none⟩))) (hne : ¬ g = g0) :
    Calls Tryz.prog 193 #[.int .u8 ((b.toNat : Nat) : Int), .pointer (some ⟨g0, 0, none⟩)] w fun e w' => e = .returned (.tuple #[]) ∧ WrAt w' g (bs ++ [b]) ∧ Upd (fun j => j = g) w w' := by
  have c64 := h.c64
  obtain ⟨v0, cb⟩ := h.some (i := bs.length) (by omega)
  have hfz := h.fz bs.length
  have hfz2 := h.fz 64
  have hU : Upd (fun j => j = g) w ((w.setCell ⟨g, bs.length, none⟩ (.int .u8 ((b.toNat : Nat) : Int))).drew.setCell ⟨g, 64, none⟩ (.int .i64 ((bs.length : Int) + 1))) := ((upd_setCell _ _ _ _).drew).trans (upd_setCell _ _ _ _)
  have hP : WrAt ((w.setCell ⟨g, bs.length, none⟩ (.int .u8 ((b.toNat : Nat) : Int))).drew.setCell ⟨g, 64, none⟩ (.int .i64 ((bs.length : Int) + 1))) g (bs ++ [b]) := by
    have := h.push hl b ((Upd.refl (fun _ => False) _).drew)
    rw [List.length_append] at this
    exact this
  have HP := Lib.hid (And.intro hP hU)
  have hb1 : 0 ≤ (bs.length : Int) ∧ (bs.length : Int) < 60 := ⟨by omega, by omega⟩
  obtain ⟨hb1, hb2⟩ := hb1
  clear h hP hU
  go_enter Tryz.func193, Tryz.ntmps193
  go_wp2
  go_region
  go_wp2
  go_end0
  exact ⟨rfl, HP.out.1, HP.out.2⟩
theorem WrAt.set65 {w : World} {g : Nat} {bs : List UInt8} (h : WrAt w g bs) : WrAt (w.setCell ⟨g, 65, none⟩ (.int .i64 0)) g bs := by
  refine ⟨h.1, ?_⟩
  rw [heap_setCell_same h.2 65 (.int .i64 0)]
  congr 2
  rw [List.setIfInBounds_toArray, List.set_append_right _ _ (by rw [h.len]; omega), h.len]
  rfl
theorem cell_keep_off {w : World} {g o b o' : Nat} {v u : Value} (h : w.cell? ⟨g, o, none⟩ = some v) (hne : o' ≠ o) : (w.setCell ⟨b, o', none⟩ u).cell? ⟨g, o, none⟩ = some v := by
  rw [World.cell?_setCell_other _ _ _ _ (fun e => hne (congrArg Addr.off e)), h]
theorem wwrite (w : World) : Calls Tryz.prog 122 #[] w fun e w' => ∃ g, e = .returned (.pointer (some ⟨g, 0, none⟩)) ∧ WrAt w' g [] ∧ w.heap.size ≤ g ∧ Below w.heap.size w w' := by
  go_enter Tryz.func122, Tryz.ntmps122
  go_wp2
  go_ret
  refine ⟨w.heap.size, rfl, ⟨by simp, heap_alloc_last w _ rfl⟩, Nat.le_refl _, (Below.refl _ w).alloc (Nat.le_refl _) _⟩
set_option maxRecDepth 100000 in
set_option maxHeartbeats 1000000 in
theorem wput {w : World} {g : Nat} {bs : List UInt8} (h : WrAt w g bs) (n size : Nat) (h1 : 1 ≤ size) (h2 : size ≤ 7) (hn : n < 256 ^ size) (hl : bs.length + size ≤ 60) :
    Calls Tryz.prog 123 #[.pointer (some ⟨g, 0, none⟩), .int .i64 (n : Int), .int .i64 (size : Int)] w fun e w' => e = .returned (.pointer (some ⟨g, 0, none⟩)) ∧ WrAt w' g (bs ++ lowB n size) ∧ Upd (fun j => j = g) w w' := by
  have hmf : ∀ (fn : Fn) (first cap : Array Value) (w : World), (Instr.makeFunc fn first cap).run Tryz.prog w = .ok (.func fn first cap) w := fun _ _ _ _ => rfl
  have hua : Upd (fun _ => False) w (w.alloc (.cells #[.pointer (some ⟨g, 0, none⟩)] 213)) := (Upd.refl _ _).alloc _
  have h' := h.keep hua (fun h => h)
  have c0 : (w.alloc (.cells #[.pointer (some ⟨g, 0, none⟩)] 213)).cell? ⟨w.heap.size, 0, none⟩ = some (.pointer (some ⟨g, 0, none⟩)) := cell_of_block (heap_alloc_last w _ rfl) 0
  have c64 := h'.c64
  have c65 := h'.c65
  have z65 := h'.fz 65
  have hgl := h.lt
  have hne : ¬ g = w.heap.size := by omega
  have hne2 : w.heap.size ≠ g := by omega
  have H := Lib.hid (And.intro h' (And.intro hua (And.intro hn (And.intro h2 (And.intro hl h1)))))
  have hs1 : (60 : Int) - bs.length = ((60 - bs.length : Nat) : Int) := by omega
  have hsw : IntKind.i64.wrap (60 - (bs.length : Int)) = ((60 - bs.length : Nat) : Int) := by rw [hs1, IntWalk.i64_in _ (by omega)]
  clear h' hua hn h h1 hs1
  go_enter Tryz.func123, Tryz.ntmps123
  go_wp2
  generalize (w.alloc (.cells #[.pointer (some ⟨g, 0, none⟩)] 213)) = w1 at *
  generalize w.heap.size = m at *
  go_region_held3 (fun W => W.cell? ⟨m, 0, none⟩ = some (.pointer (some ⟨g, 0, none⟩)) ∧ W.cell? ⟨g, 64, none⟩ = some (.int .i64 (bs.length : Int)))
    ((go_split_ands; (simp only [World.cell?_drew] at *); ((repeat' constructor) <;> first | assumption | (refine cell_keep_set ?_ ?_ <;> assumption) | (refine cell_keep_off ?_ (by decide); assumption))))
    (first | (go_at_call 192; refine (may_ok n size (60 - bs.length) H.out.2.2.2.2.2 H.out.2.2.2.1 H.out.2.2.1 (by have := H.out.2.2.2.2.1; omega) (by omega) _).mono ?_; rintro e w' ⟨rfl, rfl⟩))
  have hW2 : WrAt (w1.setCell ⟨g, 65, none⟩ (.int .i64 0)).drew g bs := (H.out.1.set65).keep ((Upd.refl (fun _ => False) _).drew) (fun h => h)
  have hU2 : Hid (Upd (fun j => j = g) w (w1.setCell ⟨g, 65, none⟩ (.int .i64 0)).drew) := (H.out.2.1.mono (fun _ _ h => h.elim)).trans ((upd_setCell _ _ _ _).drew)
  have c02 : (w1.setCell ⟨g, 65, none⟩ (.int .i64 0)).drew.cell? ⟨m, 0, none⟩ = some (.pointer (some ⟨g, 0, none⟩)) := by
    rw [World.cell?_drew]; exact cell_keep_set c0 hne
  rename_i hHeld
  clear hHeld
  generalize (w1.setCell ⟨g, 65, none⟩ (.int .i64 0)).drew = w2 at *
  have c65' := hW2.c65
  have HW := Lib.hid (And.intro hW2 c02)
  clear hW2 c0 c64 c65 z65
  go_wp2_with fail
  refine (low_any (w := w2) n size (Nat.lt_of_lt_of_le H.out.2.2.1 (Nat.pow_le_pow_right (n := 256) (by omega) h2)) h2 193 #[.pointer (some ⟨m, 0, none⟩)] (fun _ _ => rfl)
    (fun i W => WrAt W g (bs ++ lowB n i) ∧ Upd (fun j => j = g) w2 W) ⟨by simpa [lowB] using HW.out.1, Upd.refl _ _⟩ ?_).mono ?_
  · intro i hi W hJ
    refine (wput1 hJ.1 (by rw [List.length_append, lowB_len]; omega) (UInt8.ofNat (n / 256 ^ i)) (hJ.2.cellv HW.out.2 hne2) hne).mono ?_
    rintro e w' ⟨rfl, h3, h4⟩
    refine ⟨rfl, ?_, hJ.2.trans h4⟩
    rw [lowB_snoc, ← List.append_assoc]; exact h3
  · rintro e w3 ⟨rfl, hW3, hU3⟩
    have c03 := hU3.cellv HW.out.2 hne2
    have HZ := Lib.hid (And.intro hW3 hU3)
    clear hW3 hU3
    go_wp2
    go_ret
    exact ⟨rfl, HZ.out.1, hU2.out.trans HZ.out.2⟩
end Go.Proofs.YtfhfbpmlnjdfoaaGreatDoor
