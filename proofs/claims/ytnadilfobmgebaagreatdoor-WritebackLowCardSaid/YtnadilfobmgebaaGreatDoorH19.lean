/- A cache: Checkpoint of an empty index. Pages: Write of a checkpoint's sectors, whatever becomes of its calls. -/
import Derived.Test.YtnadilfobmgebaaGreatDoorH15
import Derived.Test.YtnadilfobmgebaaGreatDoorH18
import Derived.Test.YtnadilfobmgebaaGreatDoorH17
import Derived.Test.YtnadilfobmgebaaGreatDoorH11
namespace Go.Proofs.YtnadilfobmgebaaGreatDoor
open Go Go.RowKit Go.Shelf
attribute [local go_sem] Oper.semAt_some
section
variable {own own' : Nat → Nat} {w w' : World} {c : Nat} {n : CaN} {p : CaP} {a : CaS}
def Box (own : Nat → Nat) (w : World) (b : Nat) (o : Obj) : Prop := w.heap[b]? = some o ∧ own b = 0
theorem Box.did {b : Nat} {o : Obj} (h : Box own w b o) (hd : Did own own' w w') : Box own' w' b o :=
  ⟨(hd.upd.block b (lt_of_block h.1) (fun hs => hs.1 h.2)).trans h.1, (hd.old b (lt_of_block h.1)).trans h.2⟩
theorem Box.new {b : Nat} {o : Obj} (h : Box own w b o) (hu : Upd (fun _ => False) w w') : Box own w' b o := ⟨hu.blockv h.1, h.2⟩
theorem build_none {w : World} (seq : Nat) (hs : seq ≤ 1099511627776) (hN : Nib w) : ∀ W, Below w.heap.size w W → Calls Tryz.prog 227 #[.int .i64 (seq : Int), .slice none 0 0] W (BuildPost W seq []) := fun _W hb => build_nil seq hs (hN.below hb)
theorem Box.made (hf : ∀ j, w.heap.size ≤ j → own j = 0) (o : Obj) : Box own (w.alloc o) w.heap.size o := ⟨heap_alloc_last w o rfl, hf _ (Nat.le_refl _)⟩
theorem ca_ssd_flush0 (h : CaAt own w c n p a) (hP : a.dP = []) : Calls Tryz.prog 72 #[ptr p.ssd] w (CaOut own w c n p { a with dF := flushF a.dF a.dO, dO := [], dP := [] } (.int .i64 0)) := by
  have := ca_ssd_flush h
  rw [hP] at this
  exact this
theorem ca_back_flush0 (h : CaAt own w c n p a) (hP : a.bP = []) : Calls Tryz.prog 72 #[ptr p.back] w (CaOut own w c n p { a with bF := flushF a.bF a.bO, bO := [], bP := [] } (.int .i64 0)) := by
  have := ca_back_flush h
  rw [hP] at this
  exact this
theorem ca_save (h : CaAt own w c n p a) (hP : a.dP = []) (hO : a.dO.length ≤ 50000) (seq wh : Nat) (hwh : wh ≤ 1) (lo : Option Addr) (k lc : Nat) (E : List Ent) (hE : E.length = k) (hk : needN k ≤ n.pa) (hk1 : k ≤ 100000)
    (hbuild : ∀ W, Below w.heap.size w W → Calls Tryz.prog 227 #[.int .i64 (seq : Int), .slice lo k lc] W (BuildPost W seq E)) :
    Calls Tryz.prog 158 #[ptr p.ssd, .int .i64 1, .int .i64 (n.pa : Int), .int .i64 (wh : Int), .int .i64 (seq : Int), .slice lo k lc] w
      (CaOut own w c n p { a with dF := flushF a.dF (a.dO ++ ckO (1 + wh * n.pa) n.pa (pagesB seq E)), dO := [], dP := [] } (.int .i64 0)) := by
  have ho := h.open2
  rw [hP] at ho
  have hz := h.ok.z
  have hs := h.fl
  have hs1 := h.ok.s1
  have hp2 := h.ok.p2
  unfold CaN.size at hz hs
  exact (psave ho (fun _ h => .inr h) 1 n.pa seq wh hwh lo k lc E hE hk hk1 (by omega) (by omega) hbuild).mono fun _ _ ⟨he, hd, hu⟩ => ⟨he, _, h.turn2 hu hd (flushF_len _ _), h.did2 hu⟩
theorem CaAt.nobody (h : CaAt own w c n p a) {S : Nat → Prop} (hu : Upd S w w') (hS : ∀ j, S j → own j = 0 ∧ j ≠ 0 ∧ j ≠ 1) : CaAt own w' c n p a := by
  have hne : ∀ (k j : Nat), k ≠ 0 → own j = k → ¬ S j := fun k j hk hj hs => hk (hj.symm.trans (hS j hs).1)
  exact { h with
    str := (hu.block c h.clt (hne 1 c (by decide) h.oc)).trans h.str
    ssd := h.ssd.keep hu (fun j hj => hne _ j (by decide) hj)
    back := h.back.keep hu (fun j hj => hne _ j (by decide) hj)
    jr := (Jn.thing _ _ _ _ _ _ _).keep h.jr hu (fun j hj => hne _ j (by decide) hj)
    ix := (Ix.thing _ _ _ _).keep h.ix hu (fun j hj => hne _ j (by decide) hj)
    ss := (Ss.thing _ _).keep h.ss hu (fun j hj => hne _ j (by decide) hj)
    lg := (Lg.thing _ _ _).keep h.lg hu (fun j hj => hne _ j (by decide) hj)
    ck := h.ck.keep hu (fun j hj => hne _ j (by decide) hj)
    sm := (Mp.thing _ _ _).keep h.sm hu (fun j hj => hne _ j (by decide) hj)
    far := fun j hj => h.far j (Nat.le_trans hu.size hj)
    nib := h.nib.keep hu (fun hs => (hS _ hs).2.1 rfl)
    tur := h.tur.keep hu (fun hs => (hS _ hs).2.2 rfl) }
theorem not_cells {b : Nat} {o : Obj} {u : Value} {i : Nat} {b2 : Nat} (h : w.heap[b]? = some o) (ho : o.isCells = false) (hc : w.cell? ⟨b2, i, none⟩ = some u) : b ≠ b2 := by
  rintro rfl
  cases o <;> simp [World.cell?, h, Obj.isCells] at hc ho
theorem upd_put (W : World) (l : Nat) (o' : Obj) : Upd (fun j => j = l) W (W.putObj l o') :=
  ⟨rfl, rfl, rfl, by simp [World.putObj], fun k _ hk => by
    simp only [World.putObj]
    rw [Array.getElem?_setIfInBounds_ne (fun e => hk e.symm)]⟩
theorem CaAt.putObj (h : CaAt own w c n p a) {b : Nat} {o : Obj} (hb : Box own w b o) (ho : o.isCells = false) (o' : Obj) : CaAt own (w.putObj b o') c n p a :=
  h.nobody (upd_put w b o') (fun j e => by subst e; exact ⟨hb.2, not_cells hb.1 ho (h.nib.c 0 (by decide)), not_cells hb.1 ho h.tur.c0⟩)
theorem Did.putObj (h : Did own own' w w') {b : Nat} (hb : w.heap.size ≤ b) (o' : Obj) : Did own own' w (w'.putObj b o') :=
  ⟨h.upd.new (upd_put w' b o') (fun i hi e => by omega), h.old, h.new, fun j hj => h.far j (by simpa [World.putObj] using hj)⟩
def ckpS (n : CaN) (a : CaS) (E : List Ent) : CaS :=
  { a with bF := flushF a.bF a.bO, bO := [], bP := [], dF := flushF (flushF a.dF a.dO) (ckO (1 + (1 - a.which) * n.pa) n.pa (pagesB (a.next - 1) E)), dO := [], dP := [], which := 1 - a.which, cov := a.next - 1, W := [], st := freeTo a.st (pos a.st 3) }
def CkOut (own : Nat → Nat) (w : World) (c : Nat) (n : CaN) (p : CaP) (a : CaS) (E : List Ent) (e : Ending) (w' : World) : Prop := CaOut own w c n p (ckpS n a E) (.int .i64 0) e w'
set_option maxRecDepth 100000 in
set_option maxHeartbeats 1000000 in
theorem ckpt_empty (h : CaAt own w c n p a) (hbP : a.bP = []) (hdP : a.dP = []) (hdO : a.dO.length ≤ 50000) (hps : a.ps = List.replicate n.bl (-1, false)) :
    Calls Tryz.prog 99 #[ptr c] w (CkOut own w c n p a []) := by
  obtain ⟨w1, hw1⟩ : ∃ w1, w1 = w.alloc (.cells #[ptr c] 95) := ⟨_, rfl⟩
  have hu1 : Upd (fun _ => False) w w1 := by rw [hw1]; exact (Upd.refl _ w).alloc _
  have h1 := h.new hu1
  have hb1 : Box own w1 w.heap.size (.cells #[ptr c] 95) := by rw [hw1]; exact Box.made h.far _
  have d1 := h.didNew hu1
  have HH := Lib.hid (And.intro h (And.intro hbP (And.intro hdP (And.intro hdO hps))))
  have hcl := h.clt
  obtain ⟨-, c15, -⟩ := h.cells
  have H1 := Lib.hid (And.intro h1 (And.intro hb1 d1))
  have HC := Lib.hid (ca_back_flush0 h1 hbP)
  clear h hbP hdP hdO hps h1 hb1 d1 hu1
  refine (callsIn_wide (n := 3)).1 ?_
  refine callsIn_of_wp_marks Tryz.func99 rfl trivial ?_ rfl
  simp only [Tryz.ntmps99, List.size_toArray, List.length_cons, List.length_nil, Nat.reduceAdd, Nat.reduceSub, Array.replicate_succ, Array.replicate_zero, List.push_toArray, List.append_toArray, List.nil_append, List.cons_append]
  refine wpIn_wide.2 ?_
  go_wp2_with fail
  rw [← hw1]
  clear hw1 c15
  refine HC.out.mono ?_
  rintro e w2 ⟨rfl, own2, hca2, hd2⟩
  obtain ⟨h1, hb1, d1⟩ := H1.out
  have hb2 := hb1.did hd2
  have c14 := hca2.cells.1
  have cb := cell_of_block hb2.1 0
  have H2 := Lib.hid (And.intro hca2 (And.intro hb2 (d1.trans hd2)))
  have HC2 := Lib.hid (ca_ssd_flush0 hca2 HH.out.2.2.1)
  clear hca2 hd2 hb2 h1 hb1 d1 HC H1
  go_wp2_with fail
  refine HC2.out.mono ?_
  rintro e w3 ⟨rfl, own3, hca3, hd3⟩
  obtain ⟨h2, hb2, d2⟩ := H2.out
  have hb3 := hb2.did hd3
  have H3 := Lib.hid (And.intro hca3 (And.intro hb3 (d2.trans hd3)))
  clear hca3 hd3 hb3 h2 hb2 d2 HC2 H2 c14 cb
  go_wp2_with fail
  obtain ⟨h3, hb3, d3⟩ := H3.out
  obtain ⟨w4, hw4⟩ : ∃ w4, w4 = w3.alloc (.cells #[.slice none 0 0] 232) := ⟨_, rfl⟩
  have hu4 : Upd (fun _ => False) w3 w4 := by rw [hw4]; exact ((Upd.refl _ w3).alloc _)
  have hud : Upd (fun _ => False) w4 w4.drew := (Upd.refl _ w4).drew
  have h4 := h3.new hu4
  have hb4 := hb3.new hu4
  have hl4 : Box own3 w4 w3.heap.size (.cells #[.slice none 0 0] 232) := by rw [hw4]; exact Box.made h3.far _
  have d4 := d3.trans (h3.didNew hu4)
  have H4 := Lib.hid (And.intro (h4.new hud) (And.intro (hb4.new hud) (And.intro (hl4.new hud) (d4.trans (h4.didNew hud)))))
  obtain ⟨vi, mi, hix, hib, his⟩ := (h4.new hud).ix
  have hpsl := h4.pl
  have hb1 := HH.out.1.ok.b1
  have hA := all_in hix 0 n.bl (by rw [hpsl]; omega)
  have HA := Lib.hid hA
  obtain ⟨-, -, -, -, c18, -⟩ := h4.cells
  have s1 := h4.sup.2.1
  have cb := cell_of_block hb4.1 0
  rw [← hw4]
  clear h3 hb3 d3 hu4 h4 hb4 hl4 d4 hix hib his hA hpsl hw4 hud
  go_still_tail 10, (by kernel_rfl)
  change wpList _ _ _ _ _ w4.drew
  generalize w4.drew = w4d at *
  clear c18 s1 cb
  go_wp2_with fail
  refine HA.out.mono ?_
  rintro e w5 ⟨Bs, Bp, g, off, cap, rfl, ⟨hB1, hB2, hB3⟩, hBs, hBp, hg, hcs, hcp, hcl, hb5⟩
  go_wp2_with fail
  have hle : (spanL a.ps 0 n.bl).length ≤ 4096 := by
    have := HH.out.1.ok.b2
    rw [HH.out.2.2.2.2]; simp [spanL]; omega
  have hall : ∀ x ∈ spanL a.ps 0 n.bl, x = (-1, false) := by
    intro x hx
    have hm : x ∈ a.ps := List.mem_of_mem_drop (List.mem_of_mem_take hx)
    rw [HH.out.2.2.2.2] at hm
    exact (List.mem_replicate.1 hm).2
  have hgood : ∀ k (h : k < (spanL a.ps 0 n.bl).length), (spanL a.ps 0 n.bl)[k] = (-1, false) ∨ 0 ≤ (spanL a.ps 0 n.bl)[k].1 := by
    exact fun k hk => .inl (hall _ (List.getElem_mem hk))
  have hvis : vis (spanL a.ps 0 n.bl) 0 = [] := by
    have h : ∀ k, k ≤ (spanL a.ps 0 n.bl).length → visTo (spanL a.ps 0 n.bl) 0 k = [] := by
      intro k
      induction k with
      | zero => intro _; rfl
      | succ k ih =>
        intro hk
        rw [visTo_miss (by omega) (hall _ (List.getElem_mem (by omega)))]
        exact ih (by omega)
    exact h _ (Nat.le_refl _)
  have hN : (vis (spanL a.ps 0 n.bl) 0).length = 0 := by rw [hvis]; rfl
  have hu5 : Upd (fun _ => False) w4d w5 := Upd.of_below hb5
  have HK := Lib.hid (And.intro hN hu5)
  refine (wpIn_wide (n := 4)).1 ?_
  refine wpIn_rangeFunc_ownH rfl (by omega) (gf := 196) (lb := #[.pointer (some ⟨Bs, 0, none⟩), .pointer (some ⟨Bp, 0, none⟩)]) rfl trivial (enters_of Tryz.func196 (by kernel_rfl) rfl)
    (it_stops _ (by omega) (fun j => w5.heap.size ≤ j) Bs Bp g off cap (spanL a.ps 0 n.bl) 0 w5 hle (by omega) hgood hg hBp hBs (by omega) (by omega) hcs hcp hcl) supd_t (fun W l o o' hl => supd_b (M := w5.heap.size) (fun j h => h) W l o o' hl) (Below.refl _ _) (fun _ => rfl)
    (fun pre W => Below w5.heap.size w5 W)
    (fun _ _ _ => False)
    (ownFrom_below (Nat.le_refl _) (by omega))
    (fun _ _ _ _ _ hs _ _ => hs)
    (Below.refl _ _)
    (fun x a' W => True)
    (fun x a' => fun s X Y row hs hg hr => trivial)
    ?assign ?body ?done ?stop
  case assign =>
    rintro l pre x W K hB hK
    gi_wp2
    exact hK _ _ (KeepsFrom.of_grownBy (World.grownBy_alloc W _ none) (fun j e => by cases e)) ((Upd.refl _ _).alloc _) (hB.alloc hB.size _) trivial
  case body =>
    rintro l pre x a' W hl _ hB _ hlt
    rw [HK.out.1] at hlt
    omega
  case done =>
    rintro D ys W hD hys hB hK
    clear hcs hcp hcl hb5 hle hall hgood hvis hN hu5 hys
    obtain ⟨h4, hb4, hl4, d4⟩ := H4.out
    have d4' := Lib.hid d4.upd.size
    have huW : Upd (fun _ => False) w4d W := HK.out.2.trans (Upd.of_below hB)
    have h5 := h4.new huW
    have hb5 := hb4.new huW
    have hl5 := hl4.new huW
    have hD5 : Box own3 W D (.deferred (some [])) := ⟨hK, h4.far D (by have := HK.out.2.size; omega)⟩
    have d5 := d4.trans (h4.didNew huW)
    have hnx : JnGood (1 + 2 * n.pa) n.jo a.cov a.next a.W := h5.jr.good
    have hnw : 1 ≤ a.next := by have := hnx.wl; omega
    have hnm : a.next ≤ 1099511627777 := hnx.mx
    have hwh : a.which ≤ 1 := h5.wh
    have HN := Lib.hid (ca_jnext h5)
    obtain ⟨-, -, c16, c17, -⟩ := h5.cells
    have cb := cell_of_block hb5.1 0
    have e1 : ((1 - a.which : Nat) : Int) = 1 - (a.which : Int) := by omega
    have e2 : ((a.next - 1 : Nat) : Int) = (a.next : Int) - 1 := by omega
    have HE := Lib.hid (And.intro e1 e2)
    have H5 := Lib.hid (And.intro h5 (And.intro hb5 (And.intro hl5 (And.intro hD5 d5))))
    clear h4 hb4 hl4 d4 huW h5 hb5 hl5 hD5 d5 hB hK hnx e1 e2
    go_wp2_with fail
    refine HN.out.mono ?_
    rintro e w6 ⟨rfl, rfl⟩
    go_wp2_with fail
    obtain ⟨h5, hb5, hl5, hD5, d5⟩ := H5.out
    have hud : Upd (fun _ => False) W W.drew := (Upd.refl _ W).drew
    have hsv := ca_save (h5.new hud) rfl (by simp) (a.next - 1) (1 - a.which) (by omega) none 0 0 [] rfl (by have := h5.ok.p1; unfold needN; omega) (by omega) (build_none (a.next - 1) (by omega) (h5.new hud).nib)
    have HS := Lib.hid hsv
    have H6 := Lib.hid (And.intro (hb5.new hud) (And.intro (hl5.new hud) (And.intro (hD5.new hud) (d5.trans (h5.didNew hud)))))
    obtain ⟨c14, -⟩ := h5.cells
    have c7 := h5.lay.1
    obtain ⟨-, -, -, -, c4, -⟩ := h5.sup
    have cl := cell_of_block hl5.1 0
    clear h5 hb5 hl5 hD5 d5 hud hsv c16 c17
    go_still_tail 17, (by kernel_rfl)
    change wpList _ _ _ _ _ W.drew
    generalize W.drew = W2 at *
    clear c14 c7 c4 cl cb
    go_wp2_with fail
    rw [← HE.out.1, ← HE.out.2]
    refine HS.out.mono ?_
    rintro e w7 ⟨rfl, own7, hca7, hd7⟩
    obtain ⟨hb6, hl6, hD6, d6⟩ := H6.out
    have hb7 := hb6.did hd7
    have hD7 := hD6.did hd7
    have d7 := d6.trans hd7
    have hcl7 := hca7.clt
    have cb := cell_of_block hb7.1 0
    have c16 := hca7.cells.2.2.1
    have f16 := hca7.fz 16
    have c17 := hca7.cells.2.2.2.1
    have hne : w.heap.size ≠ c := by omega
    have H7 := Lib.hid (And.intro hca7 (And.intro hb7 (And.intro hD7 d7)))
    clear hca7 hd7 hb6 hl6 hD6 d6 hb7 hD7 d7
    go_wp2_with fail
    obtain ⟨h7, hb7, hD7, d7⟩ := H7.out
    have h8 := h7.turn1 (1 - a.which) (by omega)
    have d8 := d7.trans (h7.did1 (.int .i64 ((1 - a.which : Nat) : Int)))
    have hus := upd_setCell w7 c 16 (.int .i64 ((1 - a.which : Nat) : Int))
    have hb8 : Box own7 (w7.setCell ⟨c, 16, none⟩ (.int .i64 ((1 - a.which : Nat) : Int))) w.heap.size (.cells #[ptr c] 95) := ⟨(hus.block _ (lt_of_block hb7.1) hne).trans hb7.1, hb7.2⟩
    have hD8 : Box own7 (w7.setCell ⟨c, 16, none⟩ (.int .i64 ((1 - a.which : Nat) : Int))) D (.deferred (some [])) := ⟨(hus.block _ (lt_of_block hD7.1) (fun e => by have := hD7.2; rw [e, h7.oc] at this; exact absurd this (by decide))).trans hD7.1, hD7.2⟩
    generalize w7.setCell ⟨c, 16, none⟩ (.int .i64 ((1 - a.which : Nat) : Int)) = w8 at *
    have H8 := Lib.hid (And.intro hb8 (And.intro hD8 d8))
    have HV := Lib.hid (ca_cover h8 ((a.next - 1 : Nat) : Int) HE.out.2)
    clear h7 hb7 hD7 d7 h8 d8 hus hb8 hD8 cb c16 f16 c17
    refine HV.out.mono ?_
    rintro e w9 ⟨rfl, own9, hca9, hd9⟩
    obtain ⟨hb8, hD8, d8⟩ := H8.out
    have hb9 := hb8.did hd9
    have cb := cell_of_block hb9.1 0
    have H9 := Lib.hid (And.intro (hD8.did hd9) (d8.trans hd9))
    have HR := Lib.hid (ca_free hca9)
    clear hb8 hD8 d8 hb9 hca9 hd9
    go_wp2_with fail
    refine HR.out.mono ?_
    rintro e w10 ⟨rfl, own10, hca10, hd10⟩
    obtain ⟨hD9, d9⟩ := H9.out
    have HX := Lib.hid (And.intro hca10 (And.intro (hD9.did hd10) (d9.trans hd10)))
    clear hca10 hd10 hD9 d9 cb
    go_wp2
    obtain ⟨h10, hD10, d10⟩ := HX.out
    refine ⟨by simp, .inl ⟨_, _, rfl, run_takeDeferred hD10.1, ?_⟩⟩
    have hs0 := d4'.out
    exact ⟨_, results_tmp rfl _ _ _, rfl, own10, h10.putObj hD10 rfl _, d10.putObj (by have := HK.out.2.size; omega) _⟩
  case stop =>
    rintro D c pre W _ _ h _
    exact h.elim
end
attribute [local go_sem] Oper.semAt_some
def wrsR (F : List Bk) : List (Nat × Bk) → List (Nat × Bk) → List Int → DRes
  | [], O, P => ⟨F, O, P, 0⟩
  | (s, y) :: L, O, P => if (writeR F O P s y).cd = 0 then wrsR F L (writeR F O P s y).O (writeR F O P s y).P else writeR F O P s y
theorem wrsR_F (F : List Bk) (L : List (Nat × Bk)) : ∀ O P, (wrsR F L O P).F = F := by
  induction L with
  | nil => intro O P; rfl
  | cons x L ih =>
    intro O P
    simp only [wrsR]
    split
    · exact ih _ _
    · exact writeR_F _ _ _ _ _
theorem wrsR_O (F : List Bk) (L : List (Nat × Bk)) : ∀ O P, (wrsR F L O P).O.length ≤ O.length + L.length := by
  induction L with
  | nil => intro O P; simp [wrsR]
  | cons x L ih =>
    intro O P
    have h1 := writeR_O F O P x.1 x.2
    simp only [wrsR, List.length_cons]
    split
    · have := ih (writeR F O P x.1 x.2).O (writeR F O P x.1 x.2).P
      omega
    · omega
theorem wrsR_yes {F : List Bk} {x : Nat × Bk} {L O : List (Nat × Bk)} {P : List Int} (h : (writeR F O P x.1 x.2).cd = 0) : wrsR F (x :: L) O P = wrsR F L (writeR F O P x.1 x.2).O (writeR F O P x.1 x.2).P := by
  simp only [wrsR]; exact if_pos h
theorem wrsR_no {F : List Bk} {x : Nat × Bk} {L O : List (Nat × Bk)} {P : List Int} (h : ¬ (writeR F O P x.1 x.2).cd = 0) : wrsR F (x :: L) O P = writeR F O P x.1 x.2 := by
  simp only [wrsR]; exact if_neg h
theorem wrsR_snoc (F : List Bk) (L : List (Nat × Bk)) (s : Nat) (y : Bk) : ∀ O P, wrsR F (L ++ [(s, y)]) O P = if (wrsR F L O P).cd = 0 then writeR F (wrsR F L O P).O (wrsR F L O P).P s y else wrsR F L O P := by
  induction L with
  | nil =>
    intro O P
    simp only [List.nil_append, wrsR, if_true]
    split
    · next h =>
      have hF := writeR_F F O P s y
      generalize writeR F O P s y = r at *
      obtain ⟨rF, rO, rP, rc⟩ := r
      simp only at hF h
      subst hF h
      rfl
    · rfl
  | cons x L ih =>
    intro O P
    rw [List.cons_append]
    by_cases h : (writeR F O P x.1 x.2).cd = 0
    · rw [wrsR_yes h, wrsR_yes h]
      exact ih _ _
    · rw [wrsR_no h, wrsR_no h, if_neg h]
theorem wrsR_app (F : List Bk) (L L' : List (Nat × Bk)) : ∀ O P, (wrsR F L O P).cd ≠ 0 → wrsR F (L ++ L') O P = wrsR F L O P := by
  induction L with
  | nil => intro O P h; exact absurd rfl h
  | cons x L ih =>
    intro O P
    rw [List.cons_append]
    by_cases h : (writeR F O P x.1 x.2).cd = 0
    · rw [wrsR_yes h, wrsR_yes h]
      exact ih _ _
    · rw [wrsR_no h, wrsR_no h]
      exact fun _ => rfl
theorem ckO_pre {base m k : Nat} (B : List Bk) (h : k ≤ m) : ∃ L', ckO base m B = ckO base k B ++ L' := by
  refine ⟨((List.range m).drop k).map (ckW base B), ?_⟩
  rw [ckO, ckO, ← List.map_append]
  congr 1
  rw [show List.range k = (List.range m).take k by rw [List.take_range, Nat.min_eq_left h]]
  exact (List.take_append_drop k _).symm
def PwI (T : Nat → Prop) (w5 : World) (b : Nat) (F : List Bk) (O : List (Nat × Bk)) (P : List Int) (base : Nat) {m : Nat} (B : List Bk) (pre : List { i : Nat // i < m }) (W : World) : Prop :=
  (wrsR F (pre.map (fun x => ckW base B x.1)) O P).cd = 0 ∧ Dv T W b F (wrsR F (pre.map (fun x => ckW base B x.1)) O P).O (wrsR F (pre.map (fun x => ckW base B x.1)) O P).P ∧ Upd T w5 W
def PwX (T : Nat → Prop) (w5 : World) (b : Nat) (F : List Bk) (O : List (Nat × Bk)) (P : List Int) (base : Nat) {m : Nat} (B : List Bk) (rb : Nat) (c : Code) (pre : List { i : Nat // i < m }) (W : World) : Prop :=
  c = .ret ∧ (wrsR F (pre.map (fun x => ckW base B x.1)) O P).cd ≠ 0 ∧ Dv T W b F (wrsR F (pre.map (fun x => ckW base B x.1)) O P).O (wrsR F (pre.map (fun x => ckW base B x.1)) O P).P ∧ Upd (fun j => T j ∨ j = rb) w5 W ∧
    W.heap[rb]? = some (.cells #[.int .i64 (wrsR F (pre.map (fun x => ckW base B x.1)) O P).cd] 40 (0, 0))
theorem pw_end {T : Nat → Prop} {S : Nat → Prop} {w w5 W W' : World} {b rb D : Nat} {F : List Bk} {O : List (Nat × Bk)} {P : List Int} (hrb : w.heap.size ≤ rb) (hD : w5.heap.size ≤ D) (_hw5 : w.heap.size ≤ w5.heap.size) (hrb5 : rb < w5.heap.size)
    (hT : T = fun j => (S j ∧ j < w.heap.size) ∨ w5.heap.size ≤ j) (hn : ∀ j, w.heap.size ≤ j → S j) (hU : Upd (fun _ => False) w w5) (hd : Dv T W b F O P) (hu : Upd (fun j => T j ∨ j = rb) w5 W) {v : Value}
    (hG : W.heap[rb]? = some (.cells #[v] 40 (0, 0))) (hK : W.heap[D]? = some (.deferred (some []))) (hW' : W' = W.putObj D (.deferred none)) :
    W'.cell? ⟨rb, 0, none⟩ = some v ∧ Dv S W' b F O P ∧ Upd S w W' := by
  have hDl := lt_of_block hK
  have hW := supd_b (S := fun j => w5.heap.size ≤ j) (M := w5.heap.size) (fun j h => h) W D _ (.deferred none) hD hK rfl rfl
  subst hW'
  refine ⟨cell_of_block ((hW.block _ (lt_of_block hG) (by omega)).trans hG) 0, ?_, ?_⟩
  · have h2 := hd.grown (grownBy_putObj' W D (.deferred none)) (fun r e => by cases e; exact ⟨_, hK, rfl⟩)
    exact h2.wide (fun j hj => by
      rw [hT] at hj
      rcases hj with hj | hj
      · exact hj.1
      · exact hn j (by omega))
  · have hX : Upd (fun j => T j ∨ j = rb ∨ w5.heap.size ≤ j) w5 (W.putObj D (.deferred none)) := (hu.mono (fun j _ h => h.imp id .inl)).trans (hW.mono (fun _ _ h => .inr (.inr h)))
    refine (hU.mono (fun _ _ h => h.elim)).new hX (fun i hi hs => ?_)
    rcases hs with hs | hs | hs
    · rw [hT] at hs
      rcases hs with hs | hs
      · exact hs.1
      · omega
    · omega
    · omega
set_option maxRecDepth 100000 in
set_option maxHeartbeats 4000000 in
theorem pwriteR {S : Nat → Prop} {w : World} {b : Nat} {F : List Bk} {O : List (Nat × Bk)} {P : List Int} (hd : Dv S w b F O P) (hn : ∀ j, w.heap.size ≤ j → S j) (base m seq : Nat) (lo : Option Addr) (n lc : Nat) (E : List Ent) (hEn : E.length = n) (hnm : needN n ≤ m) (hn1 : n ≤ 100000)
    (hbm : base + m ≤ F.length) (hO : O.length + m < 65536) (hbuild : ∀ W, Below w.heap.size w W → Calls Tryz.prog 227 #[.int .i64 (seq : Int), .slice lo n lc] W (BuildPost W seq E)) :
    Calls Tryz.prog 197 #[.pointer (some ⟨b, 0, none⟩), .int .i64 (base : Int), .int .i64 (m : Int), .int .i64 (seq : Int), .slice lo n lc] w (Out S w b (wrsR F (ckO base m (pagesB seq E)) O P)) := by
  subst hEn
  have hm1 : 1 ≤ m := by unfold needN at hnm; omega
  have hfl := hd.good.fl
  have q1 : decide (m < needN E.length) = false := by simp; omega
  obtain ⟨w2, hw2⟩ : ∃ w2, w2 = (w.alloc (.cells #[.pointer (some ⟨b, 0, none⟩)] 29)).alloc (.cells #[.int .i64 0] 40) := ⟨_, rfl⟩
  have hu2 : Upd (fun _ => False) w w2 := by rw [hw2]; exact ((Upd.refl _ w).alloc _).alloc _
  have hd2 := hd.new hu2
  have hb2 : Below w.heap.size w w2 := Upd.below hu2
  have hz2 : w2.heap.size = w.heap.size + 2 := by rw [hw2]; simp
  have hg0 : w2.heap[w.heap.size]? = some (.cells #[.pointer (some ⟨b, 0, none⟩)] 29) := by
    rw [hw2]; exact (Below.heap_alloc _ _ _ (by simp)).trans (heap_alloc_last w _ rfl)
  have hg1 : w2.heap[w.heap.size + 1]? = some (.cells #[.int .i64 0] 40) := by
    rw [hw2]; exact heap_alloc_last _ _ (by simp)
  have H := Lib.hid (And.intro hd (And.intro hn (And.intro True.intro (And.intro hnm (And.intro hbuild (And.intro hu2 (And.intro hd2 (And.intro hb2 (And.intro hz2 (And.intro hg0 hg1))))))))))
  clear hd hn hnm hbuild hu2 hb2 hz2 hg0 hg1
  refine (callsIn_wide (n := 3)).1 ?_
  refine callsIn_of_wp_marks Tryz.func197 rfl trivial ?_ rfl
  simp only [Tryz.ntmps197, List.size_toArray, List.length_cons, List.length_nil, Nat.reduceAdd, Nat.reduceSub, Array.replicate_succ, Array.replicate_zero, List.push_toArray, List.append_toArray, List.nil_append, List.cons_append]
  gi_wp2_with (first
    | (refine ⟨trivial, ?_⟩; gi_at_call 226; rw [← hw2]; refine (callsIn_wide.2 (there1 hd2 base m hm1 hbm)).mono ?_; rintro e w' ⟨rfl, rfl⟩)
    | (refine ⟨trivial, ?_⟩; gi_at_call 56; refine (callsIn_wide.2 (need_nat E.length hn1 _)).mono ?_; rintro e w' ⟨rfl, rfl⟩)
    | fail)
  refine ⟨trivial, ?_⟩
  rw [← hw2]
  refine (callsIn_wide.2 (H.out.2.2.2.2.1 w2 H.out.2.2.2.2.2.2.2.1)).mono ?_
  rintro e w3 ⟨vB, rfl, hslB, hfB, hbB⟩
  obtain ⟨ao, cc, rfl⟩ := hslB.rd.nil_iff
  have hu23 : Upd (fun _ => False) w2 w3 := Upd.of_below hbB
  obtain ⟨w4, hw4⟩ : ∃ w4, w4 = w3.alloc (.cells #[.slice ao (needN E.length) cc] 132) := ⟨_, rfl⟩
  have hu34 : Upd (fun _ => False) w3 w4 := by rw [hw4]; exact (Upd.refl _ w3).alloc _
  have hg2 : w4.heap[w3.heap.size]? = some (.cells #[.slice ao (needN E.length) cc] 132) := by rw [hw4]; exact heap_alloc_last w3 _ rfl
  have hz4 : w4.heap.size = w3.heap.size + 1 := by rw [hw4]; simp
  have H3 := Lib.hid (And.intro hslB (And.intro hfB (And.intro hu23 (And.intro hu34 (And.intro hg2 hz4)))))
  clear hslB hfB hbB hu23 hu34 hg2 hz4 hw2 q1 hd2
  gi_wp2_with (first
    | (refine ⟨trivial, ?_⟩; gi_at_call 228; rw [← hw4]; refine (callsIn_wide.2 (sectors_any (base : Int) (m : Int) w4)).mono ?_; rintro e w5 ⟨rfl, hw5⟩)
    | fail)
  have hu45 : Upd (fun _ => False) w4 w5 := by rw [hw5]; exact ((Upd.refl _ w4).alloc _).alloc _
  have hz5 : w5.heap.size = w4.heap.size + 2 := by rw [hw5]; simp
  have hcb : w5.cell? ⟨w4.heap.size, 0, none⟩ = some (.int .i64 (base : Int)) := by
    rw [hw5]; exact (cell_of_block ((Below.heap_alloc _ _ _ (by simp)).trans (heap_alloc_last w4 _ rfl)) 0)
  have hcm : w5.cell? ⟨w4.heap.size + 1, 0, none⟩ = some (.int .i64 (m : Int)) := by
    rw [hw5]; exact (cell_of_block (heap_alloc_last _ _ (by simp)) 0)
  obtain ⟨hd, hn, -, hnm, hbuild, hu2, hd2, hb2, hz2, hg0, hg1⟩ := H.out
  obtain ⟨hslB, hfB, hu23, hu34, hg2, hz4⟩ := H3.out
  have hu25 : Upd (fun _ => False) w2 w5 := (hu23.trans hu34).trans hu45
  have hs3 := hu23.size
  obtain ⟨T, hT⟩ : ∃ T : Nat → Prop, T = fun j => (S j ∧ j < w.heap.size) ∨ w5.heap.size ≤ j := ⟨_, rfl⟩
  have hTn : ∀ j, w5.heap.size ≤ j → T j := fun j hj => by rw [hT]; exact .inr hj
  have hTo : ∀ j, w.heap.size ≤ j → j < w5.heap.size → ¬ T j := fun j h1 h2 h => by rw [hT] at h; rcases h with h | h <;> omega
  have hd5 : Dv T w5 b F O P := ((hd.shrink (T := fun j => S j ∧ j < w.heap.size) (fun j h1 h2 => ⟨h1, h2⟩)).new (hu2.trans hu25)).wide (fun j h => by rw [hT]; exact .inl h)
  have hG0 := hu25.blockv hg0
  have hG1 := hu25.blockv hg1
  have hG2 := hu45.blockv hg2
  have hsl5 := hslB.keep (hu34.trans hu45) (fun _ _ h => h)
  have HU := Lib.hid (hu2.trans hu25)
  have H5 := Lib.hid (And.intro hd5 (And.intro hTn (And.intro hTo (And.intro hG0 (And.intro hG1 (And.intro hG2 (And.intro hsl5 hT)))))))
  have b64 := pagesTo_64 seq E (needN E.length)
  clear hd hn hnm hbuild hu2 hd2 hb2 hg0 hg1 hslB hu23 hu34 hu45 hg2 hu25 hd5 hG0 hG1 hG2 hsl5 hT
  rw [← hw4, ← hw5]
  rw [hz4] at hcb hcm
  clear hw4 hw5
  refine' wpIn_rangeFunc_ownF rfl (by omega) (gf := 243) (lb := #[.pointer (some ⟨w3.heap.size + 1 + 1, 0, none⟩), .pointer (some ⟨w3.heap.size + 1, 0, none⟩)]) rfl trivial (enters_of Tryz.func243 (by kernel_rfl) rfl)
    (sec_stops _ (by omega) T (w3.heap.size + 1 + 1) (w3.heap.size + 1) base m w5 (by omega) (by omega) (by omega) (by omega) (hTo _ (by omega) (by omega)) (hTo _ (by omega) (by omega)) hcm hcb) supd_t (fun W l o o' hl => supd_b (M := w5.heap.size) hTn W l o o' hl) (Below.refl _ _) (fun _ => rfl)
    (PwI T w5 b F O P base (pagesB seq E))
    (PwX T w5 b F O P base (pagesB seq E) (w.heap.size + 1))
    (fun pre X Y row hs hg hr => ⟨hs.1, hs.2.1.grown hg (fun r e => (hr r e).2), upd_grown hs.2.2 hg (fun r e => hTn r (hr r e).1)⟩)
    (fun cc pre X Y row hs hg hr => ⟨hs.1, hs.2.1, hs.2.2.1.grown hg (fun r e => (hr r e).2), upd_grown hs.2.2.2.1 hg (fun r e => .inl (hTn r (hr r e).1)), (grownBy_keeps_cells hg (fun r e => (hr r e).2) hs.2.2.2.2 rfl).trans hs.2.2.2.2⟩)
    ⟨rfl, H5.out.1, Upd.refl _ _⟩
    _ ?assign ?body ?done ?stop
  case assign =>
    intro l x W K hK
    gi_wp2
    exact hK
  case body =>
    rintro l pre ⟨i, hi⟩ W ⟨hcd, hv, hu⟩ hlt
    obtain ⟨-, -, -, hG0, hG1, hG2, hsl5, -⟩ := H5.out
    have hG0 := (hu.block _ (lt_of_block hG0) (hTo _ (by omega) (by omega))).trans hG0
    have hG1 := (hu.block _ (lt_of_block hG1) (hTo _ (by omega) (by omega))).trans hG1
    have hG2 := (hu.block _ (lt_of_block hG2) (hTo _ (by omega) (by omega))).trans hG2
    have hsl := hsl5.keep hu (fun j hj => hTo j (by have := hfB j hj; omega) (hsl5.lt hj))
    have c0 : W.cell? ⟨w.heap.size, 0, none⟩ = some (.pointer (some ⟨b, 0, none⟩)) := cell_of_block hG0 0
    have c2 : W.cell? ⟨w3.heap.size, 0, none⟩ = some (.slice ao (needN E.length) cc) := cell_of_block hG2 0
    have hl0 := lt_of_block hG0
    have hl2 := lt_of_block hG2
    obtain ⟨y, hy⟩ : ∃ y, y = (pagesB seq E).getD i zB := ⟨_, rfl⟩
    have hyl : (bkC y).length = 64 := by
      rw [bkC_len, hy]
      by_cases h : i < (pagesB seq E).length
      · rw [List.getD_eq_getElem?_getD, List.getElem?_eq_getElem h]; exact b64 _ (List.getElem_mem h)
      · rw [List.getD_eq_getElem?_getD, List.getElem?_eq_none (by omega)]; rfl
    have hy64 : Hid ((Tryz.prog.info? 23).map (·.size) = some (bkC y).length) := by show _ = _; rw [hyl]; exact sizeBk'
    have hrO := wrsR_O F (pre.map (fun x => ckW base (pagesB seq E) x.1)) O P
    rw [List.length_map] at hrO
    have hsn := wrsR_snoc F (pre.map (fun x => ckW base (pagesB seq E) x.1)) (base + i) y O P
    rw [if_pos hcd] at hsn
    have hpm : (pre ++ [(⟨i, hi⟩ : { i : Nat // i < m })]).map (fun x => ckW base (pagesB seq E) x.1) = pre.map (fun x => ckW base (pagesB seq E) x.1) ++ [(base + i, y)] := by
      rw [List.map_append, hy]; rfl
    rw [← hpm] at hsn
    generalize wrsR F (pre.map (fun x => ckW base (pagesB seq E) x.1)) O P = r0 at *
    obtain ⟨rF, rO, rP, rc⟩ := r0
    simp only at hcd hv hrO hsn
    obtain ⟨S0, h0, hs0, hcs0⟩ := hv.exact
    obtain ⟨W1, hW1⟩ : ∃ W1, W1 = W.alloc (.cells (bkC y).toArray 23) := ⟨_, rfl⟩
    have hu1 : Upd (fun _ => False) W W1 := by rw [hW1]; exact (Upd.refl _ W).alloc _
    have hg1 : W1.heap[W.heap.size]? = some (.cells (bkC y).toArray 23) := by rw [hW1]; exact heap_alloc_last W _ rfl
    have rA := range_of_block hg1
    have hz1 : W1.heap.size = W.heap.size + 1 := by rw [hW1]; simp
    have hwr := dwriteR (S := fun j => S0 j ∨ W1.heap.size ≤ j) ((h0.new hu1).wide (fun _ h => .inl h)) (fun _ h => .inr h) (base + i) (by omega) y (by rw [← bkC_len]; exact hyl) (by omega)
    have hR : writeR F rO rP (base + i) y = writeR F rO rP (base + i) y := rfl
    have hRF := writeR_F F rO rP (base + i) y
    generalize hrr : writeR F rO rP (base + i) y = r at *
    clear hR
    have HB := Lib.hid (And.intro hv (And.intro hu (And.intro hsl (And.intro hy (And.intro hyl (And.intro h0 (And.intro hs0 (And.intro hcs0 (And.intro hW1 (And.intro hu1 hz1))))))))))
    have HG1 := Lib.hid (And.intro hG1 (And.intro hsn hRF))
    have c10 : W1.cell? ⟨w.heap.size, 0, none⟩ = some (.pointer (some ⟨b, 0, none⟩)) := hu1.cellv c0 (fun h => h)
    have HW := Lib.hid (And.intro hwr c10)
    clear hv hu hsl hG0 hG1 hG2 hsl5 hy hyl h0 hs0 hcs0 hu1 hg1 hwr hz1 c10 hcd hrO hsn hpm hrr hRF
    clear hG0 hG1 hG2
    rw [hW1] at rA
    obtain ⟨rcd, hrcd⟩ : ∃ rcd, rcd = r.cd := ⟨_, rfl⟩
    replace hrcd := Lib.hid hrcd
    by_cases hlt2 : i < needN E.length
    · obtain ⟨g, off, cap, cur, e1, hg, hz, hc⟩ := HB.out.2.2.1.at (by omega)
      cases e1
      have hBl : (pagesB seq E).length = needN E.length := pagesTo_len _ _ _
      have hr := row_range (F := pagesB seq E) b64 hg hc (i := i) (by omega)
      have hyi : (pagesB seq E)[i]'(by omega) = y := by rw [HB.out.2.2.2.1, List.getD_eq_getElem?_getD, List.getElem?_eq_getElem (by omega)]; rfl
      rw [hyi] at hr
      have hr2 := World.rangeAt_alloc hr (.cells (bkC zB).toArray 23)
      clear hg hz hc hyi hr
      gi_wp2_with (first
        | (refine wpListIn_load_mid rfl _ _ rfl _ _ rfl _ _ hr2 Tryz.underlying23 rfl hy64.out ?_)
        | (refine wpListIn_load_mid rfl _ _ rfl _ _ rfl _ _ rA Tryz.underlying23 rfl hy64.out ?_)
        | (refine wpListIn_store_new rfl _ _ _ rfl _ _ _ rfl rfl (by rw [HB.out.2.2.2.2.1]; rfl) hy64.out (bkC_one y) ?_)
        | fail)
      refine ⟨trivial, ?_⟩
      rw [show ((base : Int) + (i : Int)) = ((base + i : Nat) : Int) by simp, ← hW1]
      clear hW1 rA c0 c2
      refine (CallsIn.inRound l (callsIn_wide.2 HW.out.1)).mono ?_
      rintro e W2 ⟨rfl, hd2, hu2⟩
      have hl1 : w.heap.size + 1 < W2.heap.size := by have := hu2.size; have := lt_of_block HG1.out.1; have := HB.out.2.2.2.2.2.2.2.2.2.2; omega
      have hG1' : W2.heap[w.heap.size + 1]? = some (.cells #[.int .i64 0] 40) := by
        have hG1 := HG1.out.1
        have hl := lt_of_block hG1
        refine (hu2.block _ (by have := HB.out.2.2.2.2.2.2.2.2.2.2; omega) (fun hs => ?_)).trans (HB.out.2.2.2.2.2.2.2.2.2.1.blockv hG1)
        rcases hs with hs | hs
        · exact hTo _ (by omega) (by omega) (HB.out.2.2.2.2.2.2.1 _ hs)
        · have := HB.out.2.2.2.2.2.2.2.2.2.2; omega
      have f1 := frozen_of_block hG1' 0
      have c1' := cell_of_block hG1' 0
      have HD := Lib.hid (And.intro hd2 (And.intro hu2 hG1'))
      clear hd2 hu2 hG1'
      rw [← hrcd.out]
      by_cases hc : rcd = 0
      · have HZ := Lib.hid (hc ▸ hrcd.out : 0 = r.cd)
        subst hc
        gi_wp2
        obtain ⟨hv, hu, hsl, hy, hyl, h0, hs0, hcs0, hW1, hu1, hz1⟩ := HB.out
        obtain ⟨hd2, hu2, hG1'⟩ := HD.out
        have hsz := hu.size
        have hK1 : KeepsOthers W W1 := by rw [hW1]; exact KeepsOthers.alloc W _
        have hT2 : Upd T W W2 := (hu1.mono (fun _ _ h => h.elim)).trans (hu2.mono (fun j _ hj => hj.elim (fun h => hs0 j h) (fun h => hTn j (by omega))))
        refine ⟨hK1.trans (keepsOthers_cells hu2 (fun j hj hl => ?_)), hT2, ?_, ?_, hu.trans hT2⟩
        · rcases hj with hj | hj
          · obtain ⟨cs, t, z, hc⟩ := hcs0 j hj
            exact ⟨cs, t, z, hu1.blockv hc⟩
          · omega
        · rw [HG1.out.2.1]; exact HZ.out.symm
        · rw [HG1.out.2.1]
          have := hd2.wide (T := T) (fun j hj => hj.elim (fun h => hs0 j h) (fun h => hTn j (by omega)))
          rw [HG1.out.2.2] at this
          exact this
      · have q0 : (rcd == 0) = false := by simpa using hc
        gi_wp2
        obtain ⟨hv, hu, hsl, hy, hyl, h0, hs0, hcs0, hW1, hu1, hz1⟩ := HB.out
        obtain ⟨hd2, hu2, hG1'⟩ := HD.out
        have hsz := hu.size
        have hK1 : KeepsOthers W W1 := by rw [hW1]; exact KeepsOthers.alloc W _
        have hT2 : Upd T W W2 := (hu1.mono (fun _ _ h => h.elim)).trans (hu2.mono (fun j _ hj => hj.elim (fun h => hs0 j h) (fun h => hTn j (by omega))))
        have hus := upd_setCell W2 (w.heap.size + 1) 0 (.int .i64 rcd)
        have hne : ¬ T (w.heap.size + 1) := hTo _ (by omega) (by have := H5.out.2.2.2.2.1; have := lt_of_block this; omega)
        refine ⟨(hK1.trans (keepsOthers_cells hu2 (fun j hj hl => ?_))).trans (keepsOthers_cells hus (fun j hj _ => ⟨_, _, _, hj ▸ hG1'⟩)), rfl, ?_, ?_, ?_, ?_⟩
        · rcases hj with hj | hj
          · obtain ⟨cs, t, z, hc⟩ := hcs0 j hj
            exact ⟨cs, t, z, hu1.blockv hc⟩
          · omega
        · rw [HG1.out.2.1, ← hrcd.out]; exact hc
        · rw [HG1.out.2.1]
          have := hd2.wide (T := T) (fun j hj => hj.elim (fun h => hs0 j h) (fun h => hTn j (by omega)))
          rw [HG1.out.2.2] at this
          exact this.keep hus (fun j hj e => hne (e ▸ hj))
        · exact ((hu.trans hT2).mono (fun _ _ h => .inl h)).trans (hus.mono (fun _ _ h => .inr h))
        · rw [HG1.out.2.1, ← hrcd.out]
          exact heap_setCell_same hG1' 0 (.int .i64 rcd)
    · have hyz : y = zB := by
        have hBl : (pagesB seq E).length = needN E.length := pagesTo_len _ _ _
        rw [HB.out.2.2.2.1, List.getD_eq_getElem?_getD, List.getElem?_eq_none (by omega)]; rfl
      gi_wp2_with fail
      rw [zlit, ← hyz]
      clear hyz
      refine wpIn_load_mid _ _ rfl _ _ rfl _ _ rA Tryz.underlying23 rfl hy64.out ?_
      gi_wp2_with fail
      refine ⟨trivial, ?_⟩
      rw [show ((base : Int) + (i : Int)) = ((base + i : Nat) : Int) by simp, ← hW1]
      clear hW1 rA c0 c2
      refine (CallsIn.inRound l (callsIn_wide.2 HW.out.1)).mono ?_
      rintro e W2 ⟨rfl, hd2, hu2⟩
      have hl1 : w.heap.size + 1 < W2.heap.size := by have := hu2.size; have := lt_of_block HG1.out.1; have := HB.out.2.2.2.2.2.2.2.2.2.2; omega
      have hG1' : W2.heap[w.heap.size + 1]? = some (.cells #[.int .i64 0] 40) := by
        have hG1 := HG1.out.1
        have hl := lt_of_block hG1
        refine (hu2.block _ (by have := HB.out.2.2.2.2.2.2.2.2.2.2; omega) (fun hs => ?_)).trans (HB.out.2.2.2.2.2.2.2.2.2.1.blockv hG1)
        rcases hs with hs | hs
        · exact hTo _ (by omega) (by omega) (HB.out.2.2.2.2.2.2.1 _ hs)
        · have := HB.out.2.2.2.2.2.2.2.2.2.2; omega
      have f1 := frozen_of_block hG1' 0
      have c1' := cell_of_block hG1' 0
      have HD := Lib.hid (And.intro hd2 (And.intro hu2 hG1'))
      clear hd2 hu2 hG1'
      rw [← hrcd.out]
      by_cases hc : rcd = 0
      · have HZ := Lib.hid (hc ▸ hrcd.out : 0 = r.cd)
        subst hc
        gi_wp2
        obtain ⟨hv, hu, hsl, hy, hyl, h0, hs0, hcs0, hW1, hu1, hz1⟩ := HB.out
        obtain ⟨hd2, hu2, hG1'⟩ := HD.out
        have hsz := hu.size
        have hK1 : KeepsOthers W W1 := by rw [hW1]; exact KeepsOthers.alloc W _
        have hT2 : Upd T W W2 := (hu1.mono (fun _ _ h => h.elim)).trans (hu2.mono (fun j _ hj => hj.elim (fun h => hs0 j h) (fun h => hTn j (by omega))))
        refine ⟨hK1.trans (keepsOthers_cells hu2 (fun j hj hl => ?_)), hT2, ?_, ?_, hu.trans hT2⟩
        · rcases hj with hj | hj
          · obtain ⟨cs, t, z, hc⟩ := hcs0 j hj
            exact ⟨cs, t, z, hu1.blockv hc⟩
          · omega
        · rw [HG1.out.2.1]; exact HZ.out.symm
        · rw [HG1.out.2.1]
          have := hd2.wide (T := T) (fun j hj => hj.elim (fun h => hs0 j h) (fun h => hTn j (by omega)))
          rw [HG1.out.2.2] at this
          exact this
      · have q0 : (rcd == 0) = false := by simpa using hc
        gi_wp2
        obtain ⟨hv, hu, hsl, hy, hyl, h0, hs0, hcs0, hW1, hu1, hz1⟩ := HB.out
        obtain ⟨hd2, hu2, hG1'⟩ := HD.out
        have hsz := hu.size
        have hK1 : KeepsOthers W W1 := by rw [hW1]; exact KeepsOthers.alloc W _
        have hT2 : Upd T W W2 := (hu1.mono (fun _ _ h => h.elim)).trans (hu2.mono (fun j _ hj => hj.elim (fun h => hs0 j h) (fun h => hTn j (by omega))))
        have hus := upd_setCell W2 (w.heap.size + 1) 0 (.int .i64 rcd)
        have hne : ¬ T (w.heap.size + 1) := hTo _ (by omega) (by have := H5.out.2.2.2.2.1; have := lt_of_block this; omega)
        refine ⟨(hK1.trans (keepsOthers_cells hu2 (fun j hj hl => ?_))).trans (keepsOthers_cells hus (fun j hj _ => ⟨_, _, _, hj ▸ hG1'⟩)), rfl, ?_, ?_, ?_, ?_⟩
        · rcases hj with hj | hj
          · obtain ⟨cs, t, z, hc⟩ := hcs0 j hj
            exact ⟨cs, t, z, hu1.blockv hc⟩
          · omega
        · rw [HG1.out.2.1, ← hrcd.out]; exact hc
        · rw [HG1.out.2.1]
          have := hd2.wide (T := T) (fun j hj => hj.elim (fun h => hs0 j h) (fun h => hTn j (by omega)))
          rw [HG1.out.2.2] at this
          exact this.keep hus (fun j hj e => hne (e ▸ hj))
        · exact ((hu.trans hT2).mono (fun _ _ h => .inl h)).trans (hus.mono (fun _ _ h => .inr h))
        · rw [HG1.out.2.1, ← hrcd.out]
          exact heap_setCell_same hG1' 0 (.int .i64 rcd)
  case done =>
    rintro D ys W hD hys ⟨hcd, hv, hu⟩ hK
    obtain ⟨-, -, -, -, hG1, -, -, hT⟩ := H5.out
    have hG1 := (hu.block _ (lt_of_block hG1) (hTo _ (by omega) (by omega))).trans hG1
    have c1 := cell_of_block hG1 0
    have f1 := frozen_of_block hG1 0
    have hyO : (ckO base m (pagesB seq E)) = ys.map (fun x => ckW base (pagesB seq E) x.1) := by
      rw [ckO, ← hys, List.map_map]; rfl
    rw [← hyO] at hcd hv
    have hF := wrsR_F F (ckO base m (pagesB seq E)) O P
    generalize wrsR F (ckO base m (pagesB seq E)) O P = r at *
    have HV := Lib.hid (And.intro hv (And.intro hu (And.intro hcd (And.intro hK (And.intro hG1 (And.intro hT hF))))))
    have hl1 := lt_of_block hG1
    clear hv hu hyO hG1 hT hcd hF
    gi_wp2
    obtain ⟨hv, hu, hcd, hK, hG1, hT, hF⟩ := HV.out
    have hus := upd_setCell W (w.heap.size + 1) 0 (.int .i64 0)
    have hK2 : (W.setCell ⟨w.heap.size + 1, 0, none⟩ (.int .i64 0)).heap[D]? = some (.deferred (some [])) := (hus.block D (lt_of_block hK) (by omega)).trans hK
    have hG2 := heap_setCell_same hG1 0 (.int .i64 0)
    refine ⟨by simp, .inl ⟨_, _, rfl, run_takeDeferred hK2, ?_⟩⟩
    have h1 := hv.keep hus (fun j hj e => hTo j (by omega) (by omega) hj)
    obtain ⟨e1, e2, e3⟩ := pw_end (rb := w.heap.size + 1) (by omega) hD (by omega) (by omega) hT H.out.2.1 HU.out h1 ((hu.mono (fun _ _ h => .inl h)).trans (hus.mono (fun _ _ h => .inr h))) hG2 hK2 rfl
    refine ⟨.int .i64 0, by simp [results, Tryz.results197, go_sem, e1], ?_, ?_, e3⟩
    · rw [hcd]
    · rw [hF]; exact e2
  case stop =>
    rintro D c pre W hD hpre ⟨rfl, hcd, hv, hu, hG⟩ hK
    have hT := H5.out.2.2.2.2.2.2.2
    have hk : pre.length ≤ m := by
      refine Decidable.byContradiction fun hlt => ?_
      have hm' : m ∈ pre.map (·.1) := by rw [hpre]; exact List.mem_range.2 (by omega)
      obtain ⟨x, -, hx⟩ := List.mem_map.1 hm'
      have := x.2
      omega
    obtain ⟨L', hL'⟩ := ckO_pre (base := base) (pagesB seq E) hk
    have hyO : (ckO base pre.length (pagesB seq E)) = pre.map (fun x => ckW base (pagesB seq E) x.1) := by
      rw [ckO, ← hpre, List.map_map]; rfl
    have hfull : wrsR F (ckO base m (pagesB seq E)) O P = wrsR F (pre.map (fun x => ckW base (pagesB seq E) x.1)) O P := by
      rw [hL', hyO]; exact wrsR_app _ _ _ _ _ hcd
    have hF := wrsR_F F (ckO base m (pagesB seq E)) O P
    rw [← hfull] at hcd hv hG
    generalize wrsR F (ckO base m (pagesB seq E)) O P = r at *
    clear hfull
    obtain ⟨e1, e2, e3⟩ := pw_end (rb := w.heap.size + 1) (by omega) hD (by omega) (by omega) hT H.out.2.1 HU.out hv hu hG hK rfl
    clear hv hu hG
    gi_wp2
    refine ⟨by simp, .inl ⟨_, _, rfl, run_takeDeferred hK, ?_⟩⟩
    refine ⟨.int .i64 r.cd, by simp [results, Tryz.results197, go_sem, e1], rfl, ?_, e3⟩
    rw [hF]; exact e2
end Go.Proofs.YtnadilfobmgebaaGreatDoor
