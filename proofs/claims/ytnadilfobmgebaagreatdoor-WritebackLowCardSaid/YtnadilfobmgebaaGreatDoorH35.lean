/- Writeback's cards: their arguments, opened. A device's Copy. A device's Plan: fates behind what was planned. Writeback's laws: the memory between their calls; Drain; policies. -/
import Derived.Test.YtnadilfobmgebaaGreatDoorH33
import Derived.Test.YtnadilfobmgebaaGreatDoorH32
import Derived.Test.YtnadilfobmgebaaGreatDoorH34
import Derived.Test.YtnadilfobmgebaaGreatDoorH04
import Derived.Test.YtnadilfobmgebaaGreatDoorH09
import Derived.Laws.EntriesVeiled
namespace Go.Proofs.YtnadilfobmgebaaGreatDoor
open Go Go.RowKit Go.ChangeShapes Go.WideShapes Go.ChangeAt
theorem cells15 : Tryz.prog.cellsOf 173 = 4 := by kernel_rfl
theorem cellsPol : Tryz.prog.cellsOf 94 = 3 := by kernel_rfl
section
variable {H : Type} {enc : TypeId × Value → H} {W : World}
set_option maxRecDepth 100000 in
theorem op15El (n : Nat) (cs : List Value) (x : DataW H × List MemPlace) (h : DataW.trod enc Tryz.prog W 0 (fun _ => true) true n 173 cs = some x) : ∃ a : Op15, cs = op15C a ∧ True := by
  obtain ⟨xs, m, _, rfl, hl, hlen, hf⟩ := DataW.trod_struct Tryz.underlying173 h
  rw [cells15] at hl
  match cs, hl, xs, hlen with
  | [c0, c1, c2, c3], _, [y0, y1, y2, y3], _ =>
    have h0 := hf 0 _ rfl
    have h1 := hf 1 _ rfl
    have h2 := hf 2 _ rfl
    have h3 := hf 3 _ rfl
    obtain ⟨a, ha, _, _⟩ := DataW.trod_int Tryz.underlying3 h0
    obtain ⟨b, hb, _, _⟩ := DataW.trod_int Tryz.underlying3 h1
    obtain ⟨c, hc, _, _⟩ := DataW.trod_int Tryz.underlying3 h2
    obtain ⟨d, hd, _, _⟩ := DataW.trod_int Tryz.underlying3 h3
    cases ha; cases hb; cases hc; cases hd
    exact ⟨⟨a, b, c, d⟩, rfl, trivial⟩
set_option maxRecDepth 100000 in
theorem open_ops15 {base : Nat} {v : Value} {d : DataW H} {p : List MemPlace} (hok : Value.okWide Tryz.prog W .any base 90 v) (h : DataW.Trod enc Tryz.prog W 0 (fun _ => true) true 90 v d p) : ∃ l : List Op15, Rd W 4 v l.length (ops15 l) := by
  obtain ⟨l, hl, _⟩ := open_rd op15C (fun _ => True) (k := 4) (fun _ => rfl) (by decide) Tryz.underlying90 cells15 op15El hok h
  exact ⟨l, hl⟩
set_option maxRecDepth 100000 in
theorem open_three15 {base : Nat} {v : Value} {d : DataW H} {p : List MemPlace} (hok : Value.okWide Tryz.prog W .any base 76 v) (h : DataW.Trod enc Tryz.prog W 0 (fun _ => true) true 76 v d p) : ∃ b s j : Int, v = threeV b s j := by
  obtain ⟨l0, hl0, rfl, rfl, rfl, hw0⟩ := open_arr_ints Tryz.underlying76 Tryz.underlying3 (by kernel_rfl) (by kernel_rfl) hok h
  match l0, hl0 with
  | [b, s, j], _ => exact ⟨b, s, j, rfl⟩
set_option maxRecDepth 100000 in
theorem open_two15 {base : Nat} {v : Value} {d : DataW H} {p : List MemPlace} (hok : Value.okWide Tryz.prog W .any base 91 v) (h : DataW.Trod enc Tryz.prog W 0 (fun _ => true) true 91 v d p) : ∃ x y : Int, v = .agg #[.int .i64 x, .int .i64 y] := by
  obtain ⟨l0, hl0, rfl, rfl, rfl, hw0⟩ := open_arr_ints Tryz.underlying91 Tryz.underlying3 (by kernel_rfl) (by kernel_rfl) hok h
  match l0, hl0 with
  | [x, y], _ => exact ⟨x, y, rfl⟩
set_option maxRecDepth 100000 in
theorem open_two15r {base : Nat} {v : Value} {d : DataW H} {p : List MemPlace} (hok : Value.okWide Tryz.prog W .any base 91 v) (h : DataW.Trod enc Tryz.prog W 0 (fun _ => true) true 91 v d p) : ∃ x y : Int, v = .agg #[.int .i64 x, .int .i64 y] ∧ InR x ∧ InR y := by
  obtain ⟨l0, hl0, rfl, rfl, rfl, hw0⟩ := open_arr_ints Tryz.underlying91 Tryz.underlying3 (by kernel_rfl) (by kernel_rfl) hok h
  match l0, hl0 with
  | [x, y], _ => exact ⟨x, y, rfl, wf_in (hw0 x (by simp)), wf_in (hw0 y (by simp))⟩
set_option maxRecDepth 100000 in
theorem open_pol15 {base : Nat} {v : Value} {d : DataW H} {p : List MemPlace} (hok : Value.okWide Tryz.prog W .any base 94 v) (h : DataW.Trod enc Tryz.prog W 0 (fun _ => true) true 94 v d p) : ∃ hi lo ba : Int, v = polV hi lo ba := by
  have hok' : ∃ cs, v = .agg cs := by
    unfold Value.okWide at hok
    rw [Tryz.underlying94] at hok
    obtain ⟨cs, h1, _⟩ := hok
    exact ⟨cs, h1⟩
  obtain ⟨cs, rfl⟩ := hok'
  obtain ⟨fuel, hf⟩ := h
  obtain ⟨xs, m, _, _, hl, hlen, hi⟩ := DataW.trod_struct Tryz.underlying94 hf
  rw [cellsPol] at hl
  simp only [Value.cells] at hl hi
  match hc : cs.toList, hl, xs, hlen with
  | [c0, c1, c2], _, [y0, y1, y2], _ =>
    rw [hc] at hi
    obtain ⟨a0, h0, _, _⟩ := DataW.trod_int Tryz.underlying3 (hi 0 _ rfl)
    obtain ⟨a1, h1, _, _⟩ := DataW.trod_int Tryz.underlying3 (hi 1 _ rfl)
    obtain ⟨a2, h2, _, _⟩ := DataW.trod_int Tryz.underlying3 (hi 2 _ rfl)
    cases h0; cases h1; cases h2
    have e : cs = #[.int .i64 a0, .int .i64 a1, .int .i64 a2] := by rw [← @Array.toArray_toList _ cs, hc]
    exact ⟨a0, a1, a2, by rw [e]⟩
end
end Go.Proofs.YtnadilfobmgebaaGreatDoor
namespace Go.Proofs.YtnadilfobmgebaaGreatDoor
open Go Go.RowKit
theorem infoI3 : (Tryz.prog.info? 3).map (fun i => (i.zero.map (·.cells.size), i.size, i.bytes)) = some (some 1, 1, 8) := by kernel_rfl
theorem ints_oneD (P : List Int) : ∀ u ∈ ints P, u.oneCell' = true := by
  intro u hu
  simp only [ints, List.mem_map] at hu
  obtain ⟨x, -, rfl⟩ := hu
  rfl
set_option maxRecDepth 100000 in
set_option maxHeartbeats 1000000 in
theorem dplan {S : Nat → Prop} {w : World} {b : Nat} {F : List Bk} {O : List (Nat × Bk)} {P : List Int} (h : Dv S w b F O P) (hn : ∀ j, w.heap.size ≤ j → S j) {vk : Value} {l : List Int} (hk : Rd w 1 vk l.length (ints l))
    (hl : ∀ x ∈ l, 0 ≤ x ∧ x ≤ 2) (hP : P.length + l.length ≤ 65536) :
    Calls Tryz.prog 30 #[.pointer (some ⟨b, 0, none⟩), vk] w fun e w' => e = .returned (.int .i64 0) ∧ Dv S w' b F O (P ++ l) ∧ Upd S w w' := by
  obtain ⟨vf, vo, vp, h, hS⟩ := h
  obtain ⟨-, -, c2⟩ := h.c
  have z2 := h.fz 2
  obtain ⟨ap, cp, rfl⟩ := h.ps.rd.nil_iff
  obtain ⟨ak, ck, rfl⟩ := hk.nil_iff
  obtain ⟨i0, hi, hzz⟩ := Option.map_eq_some_iff.1 infoI3
  simp only [Prod.mk.injEq] at hzz
  obtain ⟨hz0, hz1, hz2⟩ := hzz
  obtain ⟨z0, hz, hzs⟩ := Option.map_eq_some_iff.1 hz0
  clear hz0
  have H := Lib.hid (And.intro h (And.intro hS (And.intro hn (And.intro hk (And.intro hl hP)))))
  have HI := Lib.hid (And.intro hi (And.intro hz1 (And.intro hz2 (And.intro hz hzs))))
  have hll : l.length ≤ 65536 := by omega
  clear h hS hn hk hl hP hi hz1 hz2 hz hzs
  go_enter Tryz.func30, Tryz.ntmps30
  go_wp2
  go_loopw [11] (fun i wr => ∃ k : Nat, k ≤ l.length ∧ i = .int .i64 k ∧ wr = w) (fun i _ => l.length - (intOf i).toNat)
  case atStart => exact ⟨0, Nat.zero_le _, rfl, rfl⟩
  case round =>
    obtain ⟨k, hk, rfl, rfl⟩ := hrel
    by_cases hlt : k < l.length
    · obtain ⟨blk, ofk, cpk, e1, -, hck⟩ := H.out.2.2.2.1.at (by omega)
      cases e1
      have hb := hck k (.int .i64 l[k]) (by simp [ints, List.getElem?_eq_getElem hlt])
      have hx := H.out.2.2.2.2.1 l[k] (List.getElem_mem hlt)
      generalize l[k] = x at hb hx
      obtain ⟨hx1, hx2⟩ := hx
      clear hck c2 z2
      go_wp2
      go_roundw
      case rel => exact ⟨k + 1, by omega, by go_num, trivial⟩
      case measure => simp [intOf]; omega
    · obtain rfl : k = l.length := by omega
      have hone := Lib.hid (ints_oneD l)
      have hps := Lib.hid H.out.1.ps
      go_wp2_with (first
        | (at_builtin; refine wpList_append_sl rfl _ _ 100 rfl i0 z0 8 Tryz.underlying100 HI.out.1 HI.out.2.2.2.1 HI.out.2.1 HI.out.2.2.1 HI.out.2.2.2.2 (by decide) rfl hps.out _ l.length (ints l) rfl H.out.2.2.2.1 hone.out (by unfold maxLen; have := H.out.2.2.2.2.2; omega) (by have := H.out.2.2.2.2.2; omega) ?_; intro v' w2 hs2 hu2 hb2; obtain ⟨a2, k2, rfl⟩ := hs2.rd.nil_iff; replace hu2 : Upd (ownS (.slice ap P.length cp)) wr w2 := hu2; replace hb2 : blockFrom wr (.slice ap P.length cp) (.slice a2 (P.length + l.length) k2) := hb2; have g2 := (hu2.block b (lt_of_block H.out.1.str) (fun h => H.out.1.pb h)).trans H.out.1.str; have c3 := cell_of_block g2 2; have z3 := frozen_of_block g2 2; have HA := Lib.hid (And.intro hs2 (And.intro hu2 (And.intro hb2 g2))); clear hs2 hu2 hb2 g2)
        | fail)
      go_ret
      obtain ⟨hs2, hu2, hb2, g2⟩ := HA.out
      obtain ⟨h, hS, hn, hk, hl, hP⟩ := H.out
      obtain ⟨u, hu⟩ : ∃ u : Value, u = .slice a2 (P.length + l.length) k2 := ⟨_, rfl⟩
      rw [← hu] at hs2 hb2 ⊢
      have hub : u.ownBlock ≠ some b := fun e => by
        rcases hb2 with h1 | ⟨g, h1, hle⟩
        · exact h.pb (by rw [← h1]; exact e)
        · rw [h1] at e; cases e; have := lt_of_block h.str; omega
      have hu3 : Upd (fun j => j = b) w2 (w2.setCell ⟨b, 2, none⟩ u) := upd_setCell _ _ _ _
      have hU : Upd S wr w2 := hu2.mono (fun j _ hj => hS j (.inr (.inr (.inr hj))))
      refine ⟨rfl, ⟨vf, vo, u, ?_, ?_⟩, hU.trans (hu3.mono (fun j _ e => e ▸ hS b (.inl rfl)))⟩
      · refine ⟨heap_setCell_same g2 2 u, (h.fs.keep hu2 (fun g h1 h2 => h.fp g h1 h2)).keep_ne hu3 h.fb, (h.os.keep hu2 (fun g h1 h2 => h.op g h1 h2)).keep_ne hu3 h.ob, ?_, ?_, h.fb, h.ob, hub, h.fo, (h.fp.symm.from hb2 (fun g hg => h.fs.lt hg)).symm, (h.op.symm.from hb2 (fun g hg => h.os.lt hg)).symm⟩
        · rw [List.length_append]
          have e : ints (P ++ l) = ints P ++ ints l := by simp [ints]
          rw [e]
          exact hs2.keep_ne hu3 hub
        · exact { h.good with pl := by rw [List.length_append]; exact hP }
      · rintro j (rfl | hj | hj | hj)
        · exact hS _ (.inl rfl)
        · exact hS _ (.inr (.inl hj))
        · exact hS _ (.inr (.inr (.inl hj)))
        · rcases hb2 with h1 | ⟨g, h1, hle⟩
          · exact hS _ (.inr (.inr (.inr (by rw [← h1]; exact hj))))
          · rw [h1] at hj; cases hj; exact hn _ hle
structure LwAt (w : World) (A : Nat) (b s j : Int) (T : TypeId) (q : Array Value) (now : List Int) (nb c : Nat) (n : CaN) (p : CaP) (own : Nat → Nat) (X : World) (a : CaS) : Prop where
  ca : CaAt own X c n p a
  e : A = w.heap.size
  z : ∀ i, i < A + 2 → own i = 0
  zn : own nb = 0
  be : Below w.heap.size w X
  g0 : X.heap[A]? = some (.cells #[.int .i64 b, .int .i64 s, .int .i64 j] 76 (0, 0))
  g1 : X.heap[A + 1]? = some (.cells q T (0, 0))
  g2 : X.heap[nb]? = some (.cells (now.map (Value.int .i64)).toArray 64 (0, 0))
section
variable {w : World} {A : Nat} {b s j : Int} {T : TypeId} {q : Array Value} {now : List Int} {nb c : Nat} {n : CaN} {p : CaP} {own own' : Nat → Nat} {X X' : World} {a a' : CaS}
theorem LwAt.did (h : LwAt w A b s j T q now nb c n p own X a) (hc : CaAt own' X' c n p a') (d : Did own own' X X') : LwAt w A b s j T q now nb c n p own' X' a' where
  ca := hc
  e := h.e
  z := fun i hi => by
    have hl : A + 1 < X.heap.size := lt_of_block h.g1
    rw [d.old i (by omega)]
    exact h.z i hi
  zn := by rw [d.old nb (lt_of_block h.g2)]; exact h.zn
  be := below_upd h.be d.upd (Nat.le_refl _) (fun k hk => Nat.le_of_not_lt fun hlt => hk.1 (h.z k (by have := h.e; omega)))
  g0 := (d.still h.g0 (h.z _ (by omega))).1
  g1 := (d.still h.g1 (h.z _ (by omega))).1
  g2 := (d.still h.g2 h.zn).1
theorem LwAt.new (h : LwAt w A b s j T q now nb c n p own X a) (hu : Upd (fun _ => False) X X') : LwAt w A b s j T q now nb c n p own X' a := h.did (h.ca.new hu) (h.ca.didNew hu)
theorem LwAt.below (h : LwAt w A b s j T q now nb c n p own X a) (hb : Below X.heap.size X X') : LwAt w A b s j T q now nb c n p own X' a := h.new (Upd.of_below hb)
theorem LwAt.drew (h : LwAt w A b s j T q now nb c n p own X a) : LwAt w A b s j T q now nb c n p own X.drew a := h.new ((Upd.refl _ X).drew)
theorem LwAt.k0 (h : LwAt w A b s j T q now nb c n p own X a) : X.cell? ⟨A, 0, none⟩ = some (.int .i64 b) := by simpa using cell_of_block h.g0 0
theorem LwAt.k1 (h : LwAt w A b s j T q now nb c n p own X a) : X.cell? ⟨A, 1, none⟩ = some (.int .i64 s) := by simpa using cell_of_block h.g0 1
theorem LwAt.q0 (h : LwAt w A b s j T q now nb c n p own X a) {x : Value} (hx : q[0]? = some x) : X.cell? ⟨A + 1, 0, none⟩ = some x := by simpa [hx] using cell_of_block h.g1 0
theorem LwAt.q1 (h : LwAt w A b s j T q now nb c n p own X a) {x : Value} (hx : q[1]? = some x) : X.cell? ⟨A + 1, 1, none⟩ = some x := by simpa [hx] using cell_of_block h.g1 1
theorem LwAt.q2 (h : LwAt w A b s j T q now nb c n p own X a) {x : Value} (hx : q[2]? = some x) : X.cell? ⟨A + 1, 2, none⟩ = some x := by simpa [hx] using cell_of_block h.g1 2
theorem LwAt.r1 (h : LwAt w A b s j T q now nb c n p own X a) : X.rangeAt (A + 1) 0 q.toList := range_of_block h.g1
theorem LwAt.r2 (h : LwAt w A b s j T q now nb c n p own X a) : X.rangeAt nb 0 (now.map (Value.int .i64)) := range_of_block h.g2
theorem LwAt.nc (h : LwAt w A b s j T q now nb c n p own X a) {k : Nat} (hk : k < now.length) : X.cell? ⟨nb, k, none⟩ = some (.int .i64 (now.getD k 0)) := by
  refine (cell_of_block h.g2 k).trans ?_
  simp [hk, List.getD_eq_getElem?_getD]
end
theorem ca_firm {own : Nat → Nat} {w : World} {c : Nat} {n : CaN} {p : CaP} {a : CaS} (h : CaAt own w c n p a) {k : Nat} (hk : k < n.bl) {y : Bk} (hy : a.bF.getD k zB = y) :
    Calls Tryz.prog 28 #[ptr p.back, .int .i64 (k : Int)] w fun e w' => e = .returned (.tuple #[.agg (bkC y).toArray, .int .i64 0]) ∧ Below w.heap.size w w' :=
  (dfirm h.back (k : Int)).mono fun e w' hp => by
    rcases hp with ⟨h1, -, -⟩ | ⟨-, h2, h3⟩
    · exact absurd (hasC_in (by rw [h.gl]; exact hk)) h1
    · rw [Int.toNat_natCast, hy] at h2
      exact ⟨h2, h3⟩
structure LsAt (own : Nat → Nat) (X : World) (v : Value) (L : List Int) : Prop where
  rd : Rd X 1 v L.length (ints L)
  z : ∀ g, v.ownBlock = some g → g < X.heap.size ∧ own g = 0
theorem LsAt.did {own own' : Nat → Nat} {X X' : World} {v : Value} {L : List Int} (h : LsAt own X v L) (d : Did own own' X X') : LsAt own' X' v L :=
  ⟨h.rd.keep d.upd (fun g hg hs => hs.1 (h.z g hg).2), fun g hg => ⟨d.upd.lt (h.z g hg).1, (d.old g (h.z g hg).1).trans (h.z g hg).2⟩⟩
theorem LsAt.below {own : Nat → Nat} {X X' : World} {v : Value} {L : List Int} (h : LsAt own X v L) (hb : Upd (fun _ => False) X X') : LsAt own X' v L :=
  ⟨h.rd.keep hb (fun _ _ h => h), fun g hg => ⟨hb.lt (h.z g hg).1, (h.z g hg).2⟩⟩
theorem LsAt.made {own : Nat → Nat} {w X : World} {v : Value} {L : List Int} (h : Sl X 3 1 v L.length (ints L)) (hf : From w.heap.size v) (ho : ∀ j, w.heap.size ≤ j → own j = 0) : LsAt own X v L :=
  ⟨h.rd, fun g hg => ⟨h.lt hg, ho g (hf g hg)⟩⟩
theorem LsAt.at {own : Nat → Nat} {X : World} {v : Value} {L : List Int} (h : LsAt own X v L) {k : Nat} (hk : k < L.length) : ∃ bl off cap, v = .slice (some ⟨bl, off, none⟩) L.length cap ∧ X.cell? ⟨bl, off + k, none⟩ = some (.int .i64 L[k]) := by
  obtain ⟨bl, off, cap, hv, -, hc⟩ := h.rd.at (by omega)
  exact ⟨bl, off, cap, hv, hc k _ (by simp [ints, hk])⟩
section
variable {own : Nat → Nat} {w : World} {c : Nat} {n : CaN} {p : CaP} {a : CaS}
theorem ca_back_plan (h : CaAt own w c n p a) {vk : Value} {l : List Int} (hk : Rd w 1 vk l.length (ints l)) (hl : ∀ x ∈ l, 0 ≤ x ∧ x ≤ 2) (hP : a.bP.length + l.length ≤ 65536) :
    Calls Tryz.prog 30 #[ptr p.back, vk] w (CaOut own w c n p { a with bP := a.bP ++ l } (.int .i64 0)) :=
  (dplan h.open3 (fun _ h => .inr h) hk hl hP).mono fun _ _ ⟨he, hd, hu⟩ => ⟨he, _, h.turn3 hu hd rfl, h.did3 hu⟩
theorem ca_ssd_plan (h : CaAt own w c n p a) {vk : Value} {l : List Int} (hk : Rd w 1 vk l.length (ints l)) (hl : ∀ x ∈ l, 0 ≤ x ∧ x ≤ 2) (hP : a.dP.length + l.length ≤ 65536) :
    Calls Tryz.prog 30 #[ptr p.ssd, vk] w (CaOut own w c n p { a with dP := a.dP ++ l } (.int .i64 0)) :=
  (dplan h.open2 (fun _ h => .inr h) hk hl hP).mono fun _ _ ⟨he, hd, hu⟩ => ⟨he, _, h.turn2 hu hd rfl, h.did2 hu⟩
end
theorem dplanned {S : Nat → Prop} {w : World} {b : Nat} {F : List Bk} {O : List (Nat × Bk)} {P : List Int} (h : Dv S w b F O P) :
    Calls Tryz.prog 48 #[.pointer (some ⟨b, 0, none⟩)] w fun e w' => e = .returned (.int .i64 P.length) ∧ w' = w := by
  obtain ⟨vf, vo, vp, h, -⟩ := h
  obtain ⟨-, -, g2⟩ := h.c
  obtain ⟨ao, c, rfl⟩ := h.ps.rd.nil_iff
  go_enter Tryz.func48, Tryz.ntmps48
  go_wp2
  go_ret
  exact ⟨rfl, rfl⟩
theorem dirtL_lt (ps : List (Int × Bool)) : (dirtL ps).Pairwise (· < ·) := List.pairwise_lt_range.filter _
theorem dirtL_rise {ps : List (Int × Bool)} {i k : Nat} (hik : i < k) (hk : k < (dirtL ps).length) : (dirtL ps)[i] < (dirtL ps)[k] := List.pairwise_iff_getElem.1 (dirtL_lt ps) i k _ _ hik
section
variable {n : CaN} {a : CaS} {v : Nat → Bk} {N : Nat}
theorem Inv15.clean (h : Inv15 n a v N) (hj : 4 ≤ n.jo) (hd : dirtL a.ps = []) :
    ((a.committed n).1.Val n v ∧ (a.committed n).1.NoP) ∧ (a.committed n).1.dO = [] ∧ (a.committed n).1.bO = [] ∧ pos (a.committed n).1.st 3 = [] ∧ dirtL (a.committed n).1.ps = [] ∧ ∀ k, k < n.bl → (a.committed n).1.bF.getD k zB = v k := by
  obtain ⟨c1, c2, c3, c4⟩ := h.nop.committed
  have hs := a.same_committed n (by omega)
  have hv := h.val.same hs
  refine ⟨⟨hv, hs.noP h.nop⟩, c2, c3, ?_, by rw [hs.ps]; exact hd, fun k hk => ?_⟩
  · rw [c4]
    generalize hF : freeTo a.st (pos a.st 3) = F
    unfold pos posTo
    rw [List.filter_eq_nil_iff]
    intro k hk
    have hk := List.mem_range.1 hk
    rw [← hF, freeTo_len] at hk
    rw [← hF, beq_iff_eq, ← List.getD_eq_getElem?_getD, freed_get _ _ hk]
    split
    · decide
    · next e => exact e
  · have hb := hv.bk k hk (by
      rw [hs.ps]
      cases e : (plc a.ps k).2 with
      | false => rfl
      | true =>
        have : k ∈ dirtL a.ps := dirtL_mem.2 ⟨by rw [h.val.pl]; exact hk, e⟩
        rw [hd] at this
        cases this)
    unfold curB at hb
    rw [c3] at hb
    exact hb
end
end Go.Proofs.YtnadilfobmgebaaGreatDoor
