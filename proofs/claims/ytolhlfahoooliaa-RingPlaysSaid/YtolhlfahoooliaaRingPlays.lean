/- Rings answer call by call as the document's list does, at any bound and any calls. No condition. -/
import Derived.Test.YtolhlfahoooliaaRef02
import Derived.Test.YtolhlfahoooliaaDraw
import Derived.Test.YtolhlfahoooliaaLaw
import Derived.Test.YtolhlfahoooliaaRows
namespace Go.Proofs.Ytolhlfahoooliaa.ringPlays
open Go Go.RowKit Go.ChangeShapes Go.WideShapes Go.ChangeAt Go.Proofs.Ytolhlfahoooliaa Go.Conc

/-- Both rings, side by side. -/
structure St (w wr : World) (N m : Nat) (l : List Int) (closed : Bool) : Prop where
  a : RingAt 76 wr (N + 1) N m (ints l) closed
  x : RefAt wr (N + 2) (N + 3) l m closed
  bel : Below w.heap.size w wr
  n : w.heap.size ≤ N
  sz : N + 3 ≤ wr.heap.size

section
variable {w wr wr' : World} {N m : Nat} {l : List Int} {closed : Bool}
theorem St.drewN (h : St w wr N m l closed) (k : Nat) : St w (wr.drewN k) N m l closed :=
  have hu : Upd (fun _ => False) wr (wr.drewN k) := (Upd.refl _ _).drewN k
  ⟨h.a.keep hu (fun h => h) (fun h => h), h.x.drewN k, below_drewN h.bel k, h.n, h.sz⟩
theorem St.alloc (h : St w wr N m l closed) (o : Obj) : St w (wr.alloc o) N m l closed :=
  have hu : Upd (fun _ => False) wr (wr.alloc o) := (Upd.refl _ _).alloc o
  ⟨h.a.keep hu (fun h => h) (fun h => h), h.x.keep hu (fun h => h) (fun _ h => h.elim), below_upd h.bel hu (Nat.le_refl _) (fun _ h => h.elim), h.n, Nat.le_trans h.sz hu.size⟩
/-- Behind a turn of the ring alone, then of the list alone. -/
theorem St.both (h : St w wr N m l closed) {w1 w2 : World} {l' : List Int} {closed' : Bool} {v v' : Value} (hx : RefAtV wr (N + 2) (N + 3) v l m closed) (hu1 : Upd (bc (N + 1) N) wr w1) (ha : RingAt 76 w1 (N + 1) N m (ints l') closed')
    (hu2 : Upd (refS (N + 2) v) w1 w2) (hx2 : RefAtV w2 (N + 2) (N + 3) v' l' m closed') : St w w2 N m l' closed' :=
  ⟨ha.keep hu2 (by rintro (h | h); · omega
                   · have := hx.fr _ h; omega) (by rintro (h | h); · omega
                                                   · have := hx.fr _ h; omega), ⟨_, hx2⟩,
   below_upd (below_upd h.bel hu1 (Nat.le_refl _) (bc_ge (by have := h.n; omega) h.n)) hu2 (Nat.le_refl _) (by rintro k (hk | hk); · have := h.n; omega
                                                                                                               · have := hx.fr _ hk; have := h.n; omega), h.n, Nat.le_trans h.sz (Nat.le_trans hu1.size hu2.size)⟩
end

/-- What a call with both comes to. -/
def After (w : World) (N m : Nat) (e : Ending) (w' : World) : Prop := e = .returned (.bool true) ∧ ∃ l' closed', St w w' N m l' closed'

abbrev dArgs (N : Nat) (ask x : Int) : Array Value := #[ringPtr (N + 1), refPtr (N + 2), .agg #[.int .i64 ask, .int .i64 x]]

theorem St.drew {w wr : World} {N m : Nat} {l : List Int} {closed : Bool} (h : St w wr N m l closed) : St w wr.drew N m l closed := h.drewN 1

/-- The state with the list's block named, below a bound. -/
theorem St.open {w wr : World} {N m : Nat} {l : List Int} {closed : Bool} (h : St w wr N m l closed) : ∃ v, RefAtV wr (N + 2) (N + 3) v l m closed ∧ ∀ g, v.ownBlock = some g → g < wr.heap.size := by
  obtain ⟨v, hv⟩ := h.x
  exact ⟨v, hv, fun g hg => hv.sl.lt hg⟩
set_option maxHeartbeats 2000000 in
theorem does_put {w wr : World} {N m : Nat} {l : List Int} {closed : Bool} (h : St w wr N m l closed) (hm : m ≤ 1024) (x : Int) :
    Calls Try.prog 25 (dArgs N 0 x) wr (After w N m) := by
  have hb := heap_alloc_last wr (.cells #[.int .i64 0, .int .i64 x] 62) rfl
  have hc1 : (wr.alloc (.cells #[.int .i64 0, .int .i64 x] 62)).cell? ⟨wr.heap.size, 1, none⟩ = some (.int .i64 x) := by rw [cell_of_block hb]; rfl
  have h2 := Lib.hid (h.alloc (.cells #[.int .i64 0, .int .i64 x] 62))
  obtain ⟨v, hv0, hvlt⟩ := h.open
  have hv := hv0.allocd ((Upd.refl (fun _ => False) wr).alloc (.cells #[.int .i64 0, .int .i64 x] 62))
  have hsz := h.sz
  clear h hb hv0
  go_enter Try.func25, Try.ntmps25
  go_wp2
  obtain ⟨wa, hwa⟩ : ∃ wa : World, wa = wr.alloc (.cells #[.int .i64 0, .int .i64 x] 62) := ⟨_, rfl⟩
  have hwas : wr.heap.size < wa.heap.size := by rw [hwa]; simp
  rw [← hwa] at h2 hc1 hv ⊢
  clear hwa
  have hvd := hv.allocd ((Upd.refl (fun _ => False) wa).drew)
  have HL := Lib.hid hvlt
  clear hv hvlt
  cases closed with
  | true =>
    go_region_held3 (fun W => W.cell? ⟨wr.heap.size, 1, none⟩ = some (.int .i64 x)) (go_keep)
      (first
        | (go_at_call 18; refine (put_shut h2.out.drew.a x).mono ?_; rintro e w1 ⟨rfl, hr1, hu1⟩; have hv1 := hvd.past hu1; have hc2 : w1.cell? ⟨wr.heap.size, 1, none⟩ = some (.int .i64 x) := (hu1.cellAt hwas (not_bc (by omega) (by omega))).trans hc1)
        | (go_at_call 29; refine (ref_put_shut ⟨_, hv1⟩ x).mono ?_; rintro e w2 ⟨rfl, rfl⟩))
    go_wp2
    go_ret
    exact ⟨rfl, _, _, h2.out.drew.both hvd hu1 hr1 (Upd.refl _ _) hv1⟩
  | false =>
    by_cases hlt : l.length < m
    · go_region_held3 (fun W => W.cell? ⟨wr.heap.size, 1, none⟩ = some (.int .i64 x)) (go_keep)
        (first
          | (go_at_call 18; refine (put_ok h2.out.drew.a x (by simpa using hlt)).mono ?_; rintro e w1 ⟨rfl, hr1, hu1⟩; have hv1 := hvd.past hu1; have hs1 : wr.heap.size < w1.heap.size := Nat.lt_of_lt_of_le hwas hu1.size; have hc2 : w1.cell? ⟨wr.heap.size, 1, none⟩ = some (.int .i64 x) := (hu1.cellAt hwas (not_bc (by omega) (by omega))).trans hc1)
          | (go_at_call 29; refine (ref_put_ok hv1 x hm hlt (by omega)).mono ?_; rintro e w2 ⟨rfl, hx2, hu2⟩; have hc3 : w2.cell? ⟨wr.heap.size, 1, none⟩ = some (.int .i64 x) := (hu2.cellAt hs1 (not_refS (by omega) HL.out)).trans hc2))
      go_wp2
      go_ret
      obtain ⟨v', hv'⟩ := hx2
      exact ⟨rfl, _, _, h2.out.drew.both hvd hu1 (by simpa using hr1) hu2 hv'⟩
    · go_region_held3 (fun W => W.cell? ⟨wr.heap.size, 1, none⟩ = some (.int .i64 x)) (go_keep)
        (first
          | (go_at_call 18; refine (put_full h2.out.drew.a x (by simpa using hlt)).mono ?_; rintro e w1 ⟨rfl, hr1, hu1⟩; have hv1 := hvd.past hu1; have hc2 : w1.cell? ⟨wr.heap.size, 1, none⟩ = some (.int .i64 x) := (hu1.cellAt hwas (not_bc (by omega) (by omega))).trans hc1)
          | (go_at_call 29; refine (ref_put_full ⟨_, hv1⟩ x hm hlt).mono ?_; rintro e w2 ⟨rfl, d, rfl⟩))
      go_wp2
      go_ret
      exact ⟨rfl, _, _, (h2.out.drew.both hvd hu1 hr1 (Upd.refl _ _) hv1).drewN d⟩

theorem does_take {w wr : World} {N m : Nat} {l : List Int} {closed : Bool} (h : St w wr N m l closed) (hm : m ≤ 1024) (x : Int) :
    Calls Try.prog 25 (dArgs N 1 x) wr (After w N m) := by
  have h2 := Lib.hid (h.alloc (.cells #[.int .i64 1, .int .i64 x] 62))
  obtain ⟨v, hv0, _⟩ := h.open
  have hv := hv0.allocd ((Upd.refl (fun _ => False) wr).alloc (.cells #[.int .i64 1, .int .i64 x] 62))
  have HV := Lib.hid hv
  clear h hv0 hv
  cases l with
  | nil =>
    go_enter Try.func25, Try.ntmps25
    go_wp2_with fail
    refine (take_none h2.out.a).mono ?_
    rintro e w1 ⟨rfl, hr1, hu1⟩
    have hv1 := Lib.hid (HV.out.past hu1)
    go_wp2_with fail
    refine (ref_take_none ⟨_, hv1.out⟩).mono ?_
    rintro e w2 ⟨rfl, rfl⟩
    go_wp2
    go_ret
    exact ⟨rfl, _, _, h2.out.both (l' := []) HV.out hu1 hr1 (Upd.refl _ _) hv1.out⟩
  | cons y l =>
    have ha := h2.out.a
    rw [ints_cons] at ha
    go_enter Try.func25, Try.ntmps25
    go_wp2_with fail
    refine (take_some ha).mono ?_
    rintro e w1 ⟨rfl, hr1, hu1⟩
    have hv1 := Lib.hid (HV.out.past hu1)
    go_wp2_with fail
    refine (ref_take_some hv1.out hm).mono ?_
    rintro e w2 ⟨rfl, ⟨v', hv2⟩, hu2⟩
    go_wp2
    go_ret
    exact ⟨rfl, _, _, h2.out.both HV.out hu1 hr1 (hu2.mono (fun k _ hk => .inl hk)) hv2⟩

theorem _root_.Go.Proofs.Ytolhlfahoooliaa.RefAtV.close {w : World} {b B : Nat} {v : Value} {l : List Int} {most : Nat} {closed : Bool} (h : RefAtV w b B v l most closed) : RefAtV (w.setCell ⟨b, 2, none⟩ (.bool true)) b B v l most true :=
  ⟨by have := heap_setCell_same h.str 2 (.bool true); simpa using this, h.sl.keep_ne (upd_setCell _ _ _ _) h.ne, h.fr, h.lt, h.le⟩

theorem does_close {w wr : World} {N m : Nat} {l : List Int} {closed : Bool} (h : St w wr N m l closed) (x : Int) :
    Calls Try.prog 25 (dArgs N 2 x) wr (After w N m) := by
  have h2 := Lib.hid (h.alloc (.cells #[.int .i64 2, .int .i64 x] 62))
  obtain ⟨v, hv0, _⟩ := h.open
  have hv := hv0.allocd ((Upd.refl (fun _ => False) wr).alloc (.cells #[.int .i64 2, .int .i64 x] 62))
  have HV := Lib.hid hv
  clear h hv0 hv
  go_enter Try.func25, Try.ntmps25
  go_wp2_with fail
  refine (close_any h2.out.a).mono ?_
  rintro e w1 ⟨rfl, hr1, hu1⟩
  have hv1 := Lib.hid (HV.out.past hu1)
  have hc2 := cell_of_block hv1.out.str 2
  have hf2 := frozen_of_block hv1.out.str 2
  simp at hc2
  have hfin := Lib.hid (h2.out.both HV.out hu1 hr1 ((upd_setCell w1 (N + 2) 2 (.bool true)).mono (fun k _ hk => .inl hk)) hv1.out.close)
  cases closed with
  | true =>
    go_wp2
    go_ret
    exact ⟨rfl, _, _, hfin.out⟩
  | false =>
    go_wp2
    go_ret
    exact ⟨rfl, _, _, hfin.out⟩

theorem does_drain {w wr : World} {N m : Nat} {l : List Int} {closed : Bool} (h : St w wr N m l closed) (hm : m ≤ 1024) (ask x : Int) (h0 : ask ≠ 0) (h1 : ask ≠ 1) (h2' : ask ≠ 2) :
    Calls Try.prog 25 (dArgs N ask x) wr (After w N m) := by
  have h2 := Lib.hid (h.alloc (.cells #[.int .i64 ask, .int .i64 x] 62))
  obtain ⟨v, hv0, _⟩ := h.open
  have hv := hv0.allocd ((Upd.refl (fun _ => False) wr).alloc (.cells #[.int .i64 ask, .int .i64 x] 62))
  have HV := Lib.hid hv
  have hb0 : (ask == 0) = false := by simpa using h0
  have hb1 : (ask == 1) = false := by simpa using h1
  have hb2 : (ask == 2) = false := by simpa using h2'
  have hsz := h.sz
  clear h hv0 hv h0 h1 h2'
  go_enter Try.func25, Try.ntmps25
  go_wp2_with fail
  refine (drain_any h2.out.a hm).mono ?_
  rintro e w1 ⟨vd, rfl, hs1, hf1, hr1, hu1⟩
  have hv1 := Lib.hid (HV.out.past hu1)
  have hc0 := cell_of_block hv1.out.str 0
  have hff0 := frozen_of_block hv1.out.str 0
  simp at hc0
  obtain ⟨vo, vc, rfl⟩ := hv1.out.sl.rd.nil_iff
  have hu2 := upd_setCell w1 (N + 2) 0 (.slice none 0 0)
  have hvk := Lib.hid (hv1.out.sl.keep_ne hu2 hv1.out.ne)
  have hsk := Lib.hid (hs1.keep_ne hu2 (fun e => by have := hf1 _ e; simp at this; omega))
  have hset := Lib.hid (hv1.out.set (v' := .slice none 0 0) (l' := []) (Sl.nil _ _ _) (From.nil _ _ _) (Nat.zero_le _))
  have hfin := Lib.hid (h2.out.both (l' := []) HV.out hu1 hr1 (hu2.mono (fun k _ hk => .inl hk)) hset.out)
  clear hu2
  go_wp2_with fail
  refine (ints_any hsk.out.rd hvk.out.rd).mono ?_
  rintro e w3 ⟨rfl, d, rfl⟩
  go_wp2
  go_ret
  exact ⟨by simp, _, _, hfin.out.drewN d⟩

theorem does_any {w wr : World} {N m : Nat} {l : List Int} {closed : Bool} (h : St w wr N m l closed) (hm : m ≤ 1024) (ask x : Int) :
    Calls Try.prog 25 (dArgs N ask x) wr (After w N m) := by
  by_cases h0 : ask = 0
  · subst h0; exact does_put h hm x
  by_cases h1 : ask = 1
  · subst h1; exact does_take h hm x
  by_cases h2 : ask = 2
  · subst h2; exact does_close h x
  · exact does_drain h hm ask x h0 h1 h2

def opCells (l : List (Int × Int)) : List Value := l.flatMap fun p => [.int .i64 p.1, .int .i64 p.2]
theorem opCells_at (l : List (Int × Int)) {k : Nat} (h : k < l.length) : (opCells l)[k * 2]? = some (.int .i64 l[k].1) ∧ (opCells l)[k * 2 + 1]? = some (.int .i64 l[k].2) := by
  induction l generalizing k with
  | nil => simp at h
  | cons p l ih =>
    cases k with
    | zero => simp [opCells]
    | succ k =>
      have := ih (k := k) (by simpa using h)
      have e1 : (k + 1) * 2 = k * 2 + 2 := by omega
      simpa [opCells, e1] using this

theorem early (most : Int) (v : Value) (l : List (Int × Int)) (w : World) (hv : Rd w 2 v l.length (opCells l)) (h : most < 1 ∨ 1024 < most ∨ 100 < l.length) :
    Calls Try.prog 7 #[.int .i64 most, v] w fun e w' => e = .returned (.bool true) ∧ Below w.heap.size w w' := by
  have hle := hv.le
  unfold maxLen at hle
  obtain ⟨ao, c, rfl⟩ := hv.nil_iff
  clear hv
  by_cases h1 : most < 1 ∨ 1024 < most
  · have H1 := Lib.hid h1
    rcases h1 with h1 | h1
    · clear h
      go_enter Try.func7, Try.ntmps7
      go_wp2_with fail
      refine (new_bad _ _ H1.out).mono ?_
      rintro e w1 ⟨rfl, rfl⟩
      go_wp2_with fail
      refine (awake02 _).mono ?_
      rintro e w' ⟨rfl, hb⟩
      go_wp2
      go_ret
      exact ⟨rfl, hb⟩
    · have h3 : ¬ most < 1 := by omega
      clear h
      go_enter Try.func7, Try.ntmps7
      go_wp2_with fail
      refine (new_bad _ _ H1.out).mono ?_
      rintro e w1 ⟨rfl, rfl⟩
      go_wp2_with fail
      refine (awake02 _).mono ?_
      rintro e w' ⟨rfl, hb⟩
      go_wp2
      go_ret
      exact ⟨rfl, hb⟩
  · have h2 : 1 ≤ most := by omega
    have h3 : most ≤ 1024 := by omega
    have h4 : 100 < l.length := by omega
    clear h1 h
    go_enter Try.func7, Try.ntmps7
    go_wp2_with fail
    refine (new_ok _ _ h2 h3).mono ?_
    rintro e w1 ⟨rfl, _, hb1⟩
    go_wp2_with fail
    refine (awake02 _).mono ?_
    rintro e w' ⟨rfl, hb⟩
    go_wp2
    go_ret
    exact ⟨rfl, hb1.trans (hb.mono hb1.size)⟩

set_option maxHeartbeats 2000000 in
theorem main (m : Nat) (v : Value) (l : List (Int × Int)) (w : World) (hv : Rd w 2 v l.length (opCells l)) (h1 : 1 ≤ m) (h2 : m ≤ 1024) (h3 : l.length ≤ 100) :
    Calls Try.prog 7 #[.int .i64 m, v] w fun e w' => e = .returned (.bool true) ∧ Below w.heap.size w w' := by
  have HV := Lib.hid hv
  obtain ⟨ao, c, rfl⟩ := hv.nil_iff
  clear hv
  go_enter Try.func7, Try.ntmps7
  go_wp2_with fail
  refine (new_ok2 _ _ (by omega) (by omega)).mono ?_
  rintro e w1 ⟨rfl, hr1, hb1, hz1⟩
  rw [Int.toNat_natCast] at hr1
  have hst : St w (w1.alloc (.cells #[.slice none 0 0, .int .i64 m, .bool false] 59)) w.heap.size m [] false :=
    have hu : Upd (fun _ => False) w1 (w1.alloc (.cells #[.slice none 0 0, .int .i64 m, .bool false] 59)) := (Upd.refl _ _).alloc _
    ⟨hr1.keep hu (fun h => h) (fun h => h), ⟨.slice none 0 0, heap_alloc_last _ _ (by omega), Sl.nil _ _ _, From.nil _ _ _, by omega, Nat.zero_le _⟩, below_upd hb1 hu (Nat.le_refl _) (fun _ h => h.elim), Nat.le_refl _, by simp; omega⟩
  have HST := Lib.hid hst
  have HZ := Lib.hid hz1
  clear hst hr1 hb1 hz1
  go_wp2_with fail
  rw [HZ.out]
  obtain ⟨wa, hwa⟩ : ∃ wa : World, wa = w1.alloc (.cells #[.slice none 0 0, .int .i64 m, .bool false] 59) := ⟨_, rfl⟩
  rw [← hwa] at HST ⊢
  clear hwa HZ w1
  go_loopg [8] l.length (fun g i wr => ∃ k : Nat, k + g = l.length ∧ i = .int .i64 k ∧ ∃ l' cl, St w wr w.heap.size m l' cl)
  case atStart => exact ⟨0, by omega, rfl, _, _, HST.out⟩
  case round =>
    clear HST wa
    obtain ⟨k, hk, rfl, l', cl, hs⟩ := hrel
    by_cases hlt : k < l.length
    · obtain ⟨bl, off, c', hvv, hbl, hcells⟩ := HV.out.at (by omega)
      cases hvv
      obtain ⟨ho1, ho2⟩ := opCells_at l hlt
      have hc1 : wr.cell? ⟨bl, off + k * 2, none⟩ = some (.int .i64 l[k].1) := (hs.bel.cell hbl).trans (hcells _ _ ho1)
      have hc2 : wr.cell? ⟨bl, off + k * 2 + 1, none⟩ = some (.int .i64 l[k].2) := (hs.bel.cell hbl).trans (hcells _ _ ho2)
      clear hcells ho1 ho2
      have HS := Lib.hid hs
      clear hs
      go_wp2_with fail
      have hw0 : wr.drew.cell? ⟨bl, off + k * 2, none⟩ = some (.int .i64 l[k].1) ∧ wr.drew.cell? ⟨bl, off + k * 2 + 1, none⟩ = some (.int .i64 l[k].2) := ⟨hc1, hc2⟩
      refine wp_region_held_drew (S := fun _ => True) (by kernel_rfl) trivial (fun _ => ?_)
      refine wpAnyH_sharpen (fun W => W.cell? ⟨bl, off + k * 2, none⟩ = some (.int .i64 l[k].1) ∧ W.cell? ⟨bl, off + k * 2 + 1, none⟩ = some (.int .i64 l[k].2)) (fun _ _ => trivial) hw0 (fun hHeld1 => ?_)
      refine wpAnyH_take (i := 0) (oi := ?oi0_0) (v := ?v0_0) ?hi0_0 ?hs0_0 ?hf0_0 ?hr0_0 ?hQ0_0 ?hy0_0 ?hS0_0 ?rest0_0
      case hi0_0 => rfl
      case hs0_0 => kernel_rfl
      case hf0_0 => kernel_rfl
      case hr0_0 => kernel_rfl
      case hQ0_0 => exact fun _ _ _ h => h
      case hS0_0 => assumption
      case hy0_0 => exact Or.inl ⟨rfl, by intro W hW; (try dsimp only at hW); go_simp; (try with_reducible rfl)⟩
      try simp only [Act.put, List.setIfInBounds_toArray, List.set_cons_zero, List.set_cons_succ, List.getElem_toArray, List.getElem_cons_zero, List.getElem_cons_succ]
      refine wpAnyH_take (i := 1) (oi := ?oi1_9) (v := ?v1_9) ?hi1_9 ?hs1_9 ?hf1_9 ?hr1_9 ?hQ1_9 ?hy1_9 ?hS1_9 ?rest1_9
      case hi1_9 => rfl
      case hs1_9 => kernel_rfl
      case hf1_9 => kernel_rfl
      case hr1_9 => kernel_rfl
      case hQ1_9 => exact fun _ _ _ h => h
      case hS1_9 => assumption
      case hy1_9 => exact Or.inl ⟨rfl, by intro W hW; (try dsimp only at hW); go_simp; (try with_reducible rfl)⟩
      try simp only [Act.put, List.setIfInBounds_toArray, List.set_cons_zero, List.set_cons_succ, List.getElem_toArray, List.getElem_cons_zero, List.getElem_cons_succ]
      refine wpAnyH_take (i := 2) (oi := ?oi2_18) (v := ?v2_18) ?hi2_18 ?hs2_18 ?hf2_18 ?hr2_18 ?hQ2_18 ?hy2_18 ?hS2_18 ?rest2_18
      case hi2_18 => rfl
      case hs2_18 => kernel_rfl
      case hf2_18 => kernel_rfl
      case hr2_18 => kernel_rfl
      case hQ2_18 => exact fun _ _ _ h => h
      case hS2_18 => assumption
      case hy2_18 => exact Or.inl ⟨rfl, by intro W hW; (try dsimp only at hW); go_simp; (try with_reducible rfl)⟩
      try simp only [Act.put, List.setIfInBounds_toArray, List.set_cons_zero, List.set_cons_succ, List.getElem_toArray, List.getElem_cons_zero, List.getElem_cons_succ]
      refine wpAnyH_take (i := 3) (oi := ?oi3_27) (v := ?v3_27) ?hi3_27 ?hs3_27 ?hf3_27 ?hr3_27 ?hQ3_27 ?hy3_27 ?hS3_27 ?rest3_27
      case hi3_27 => rfl
      case hs3_27 => kernel_rfl
      case hf3_27 => kernel_rfl
      case hr3_27 => kernel_rfl
      case hQ3_27 => exact fun _ _ _ h => h
      case hS3_27 => assumption
      case hy3_27 => exact Or.inl ⟨rfl, by intro W hW; (try dsimp only at hW); go_simp; (try with_reducible rfl)⟩
      try simp only [Act.put, List.setIfInBounds_toArray, List.set_cons_zero, List.set_cons_succ, List.getElem_toArray, List.getElem_cons_zero, List.getElem_cons_succ]
      refine wpAnyH_take (i := 4) (oi := ?oi4_36) (v := ?v4_36) ?hi4_36 ?hs4_36 ?hf4_36 ?hr4_36 ?hQ4_36 ?hy4_36 ?hS4_36 ?rest4_36
      case hi4_36 => rfl
      case hs4_36 => kernel_rfl
      case hf4_36 => kernel_rfl
      case hr4_36 => kernel_rfl
      case hQ4_36 => exact fun _ _ _ h => h
      case hS4_36 => assumption
      case hy4_36 => exact Or.inl ⟨rfl, by intro W hW; (try dsimp only at hW); go_simp; (try with_reducible rfl)⟩
      try simp only [Act.put, List.setIfInBounds_toArray, List.set_cons_zero, List.set_cons_succ, List.getElem_toArray, List.getElem_cons_zero, List.getElem_cons_succ]
      refine wpAnyH_take (i := 5) (oi := ?oi5_45) (v := ?v5_45) ?hi5_45 ?hs5_45 ?hf5_45 ?hr5_45 ?hQ5_45 ?hy5_45 ?hS5_45 ?rest5_45
      case hi5_45 => rfl
      case hs5_45 => kernel_rfl
      case hf5_45 => kernel_rfl
      case hr5_45 => kernel_rfl
      case hQ5_45 => exact fun _ _ _ h => h
      case hS5_45 => assumption
      case hy5_45 => exact Or.inl ⟨rfl, by intro W hW; (try dsimp only at hW); go_simp; (try with_reducible rfl)⟩
      try simp only [Act.put, List.setIfInBounds_toArray, List.set_cons_zero, List.set_cons_succ, List.getElem_toArray, List.getElem_cons_zero, List.getElem_cons_succ]
      refine wpAnyH_ready (rs := [6]) (by kernel_rfl) (by simp) ?_
      refine AllReadyH.cons rfl (fun K hK => ?_) AllReadyH.nil
      go_simp
      refine (does_any HS.out.drew h2 _ _).mono ?_
      rintro e w2 ⟨rfl, l2, cl2, hs2⟩
      have hd1 : w2.cell? ⟨bl, off + k * 2, none⟩ = some (.int .i64 l[k].1) := (hs2.bel.cell hbl).trans ((HS.out.bel.cell hbl).symm.trans hc1)
      have hd2 : w2.cell? ⟨bl, off + k * 2 + 1, none⟩ = some (.int .i64 l[k].2) := (hs2.bel.cell hbl).trans ((HS.out.bel.cell hbl).symm.trans hc2)
      obtain ⟨v2, hv2, _⟩ := hs2.open
      have hr0 := cell_of_block hv2.str 0
      have hr2 := cell_of_block hv2.str 2
      simp at hr0 hr2
      obtain ⟨vo, vc, rfl⟩ := hv2.sl.rd.nil_iff
      have hle2 := hv2.le
      have HS2 := Lib.hid hs2
      clear hs2 hv2
      go_wp2_with fail
      refine hK.out _ _ (⟨hd1, hd2⟩) (fun hHeld3 => ?_)
      clear hK K
      try simp only [Act.put, List.setIfInBounds_toArray, List.set_cons_zero, List.set_cons_succ, List.getElem_toArray, List.getElem_cons_zero, List.getElem_cons_succ]
      refine wpAnyH_sharpen (fun W => (W.cell? ⟨bl, off + k * 2, none⟩ = some (.int .i64 l[k].1) ∧ W.cell? ⟨bl, off + k * 2 + 1, none⟩ = some (.int .i64 l[k].2)) ∧ W.cell? ⟨w.heap.size + 2, 0, none⟩ = some (.slice vo l2.length vc) ∧ W.cell? ⟨w.heap.size + 2, 2, none⟩ = some (.bool cl2)) (fun _ h => h.1) (⟨⟨hd1, hd2⟩, hr0, hr2⟩) (fun hHeld2 => ?_)
      refine wpAnyH_take (i := 7) (oi := ?oi7_74) (v := ?v7_74) ?hi7_74 ?hs7_74 ?hf7_74 ?hr7_74 ?hQ7_74 ?hy7_74 ?hS7_74 ?rest7_74
      case hi7_74 => rfl
      case hs7_74 => kernel_rfl
      case hf7_74 => kernel_rfl
      case hr7_74 => kernel_rfl
      case hQ7_74 => exact fun _ _ _ h => h
      case hS7_74 => assumption
      case hy7_74 => exact Or.inl ⟨rfl, by intro W hW; (try dsimp only at hW); go_simp; (try with_reducible rfl)⟩
      try simp only [Act.put, List.setIfInBounds_toArray, List.set_cons_zero, List.set_cons_succ, List.getElem_toArray, List.getElem_cons_zero, List.getElem_cons_succ]
      refine wpAnyH_take (i := 8) (oi := ?oi8_83) (v := ?v8_83) ?hi8_83 ?hs8_83 ?hf8_83 ?hr8_83 ?hQ8_83 ?hy8_83 ?hS8_83 ?rest8_83
      case hi8_83 => rfl
      case hs8_83 => kernel_rfl
      case hf8_83 => kernel_rfl
      case hr8_83 => kernel_rfl
      case hQ8_83 => exact fun _ _ _ h => h
      case hS8_83 => assumption
      case hy8_83 => exact Or.inl ⟨rfl, by intro W hW; (try dsimp only at hW); go_simp; (try with_reducible rfl)⟩
      try simp only [Act.put, List.setIfInBounds_toArray, List.set_cons_zero, List.set_cons_succ, List.getElem_toArray, List.getElem_cons_zero, List.getElem_cons_succ]
      refine wpAnyH_take (i := 9) (oi := ?oi9_92) (v := ?v9_92) ?hi9_92 ?hs9_92 ?hf9_92 ?hr9_92 ?hQ9_92 ?hy9_92 ?hS9_92 ?rest9_92
      case hi9_92 => rfl
      case hs9_92 => kernel_rfl
      case hf9_92 => kernel_rfl
      case hr9_92 => kernel_rfl
      case hQ9_92 => exact fun _ _ _ h => h
      case hS9_92 => assumption
      case hy9_92 => exact Or.inl ⟨rfl, by intro W hW; (try dsimp only at hW); go_simp; (try with_reducible rfl)⟩
      try simp only [Act.put, List.setIfInBounds_toArray, List.set_cons_zero, List.set_cons_succ, List.getElem_toArray, List.getElem_cons_zero, List.getElem_cons_succ]
      refine wpAnyH_take (i := 11) (oi := ?oi11_101) (v := ?v11_101) ?hi11_101 ?hs11_101 ?hf11_101 ?hr11_101 ?hQ11_101 ?hy11_101 ?hS11_101 ?rest11_101
      case hi11_101 => rfl
      case hs11_101 => kernel_rfl
      case hf11_101 => kernel_rfl
      case hr11_101 => kernel_rfl
      case hQ11_101 => exact fun _ _ _ h => h
      case hS11_101 => assumption
      case hy11_101 => exact Or.inl ⟨rfl, by intro W hW; (try dsimp only at hW); go_simp; (try with_reducible rfl)⟩
      try simp only [Act.put, List.setIfInBounds_toArray, List.set_cons_zero, List.set_cons_succ, List.getElem_toArray, List.getElem_cons_zero, List.getElem_cons_succ]
      refine wpAnyH_take (i := 12) (oi := ?oi12_110) (v := ?v12_110) ?hi12_110 ?hs12_110 ?hf12_110 ?hr12_110 ?hQ12_110 ?hy12_110 ?hS12_110 ?rest12_110
      case hi12_110 => rfl
      case hs12_110 => kernel_rfl
      case hf12_110 => kernel_rfl
      case hr12_110 => kernel_rfl
      case hQ12_110 => exact fun _ _ _ h => h
      case hS12_110 => assumption
      case hy12_110 => exact Or.inl ⟨rfl, by intro W hW; (try dsimp only at hW); go_simp; (try with_reducible rfl)⟩
      try simp only [Act.put, List.setIfInBounds_toArray, List.set_cons_zero, List.set_cons_succ, List.getElem_toArray, List.getElem_cons_zero, List.getElem_cons_succ]
      refine wpAnyH_take (i := 13) (oi := ?oi13_119) (v := ?v13_119) ?hi13_119 ?hs13_119 ?hf13_119 ?hr13_119 ?hQ13_119 ?hy13_119 ?hS13_119 ?rest13_119
      case hi13_119 => rfl
      case hs13_119 => kernel_rfl
      case hf13_119 => kernel_rfl
      case hr13_119 => kernel_rfl
      case hQ13_119 => exact fun _ _ _ h => h
      case hS13_119 => assumption
      case hy13_119 => exact Or.inl ⟨rfl, by intro W hW; (try dsimp only at hW); go_simp; (try with_reducible rfl)⟩
      try simp only [Act.put, List.setIfInBounds_toArray, List.set_cons_zero, List.set_cons_succ, List.getElem_toArray, List.getElem_cons_zero, List.getElem_cons_succ]
      refine wpAnyH_take (i := 14) (oi := ?oi14_128) (v := ?v14_128) ?hi14_128 ?hs14_128 ?hf14_128 ?hr14_128 ?hQ14_128 ?hy14_128 ?hS14_128 ?rest14_128
      case hi14_128 => rfl
      case hs14_128 => kernel_rfl
      case hf14_128 => kernel_rfl
      case hr14_128 => kernel_rfl
      case hQ14_128 => exact fun _ _ _ h => h
      case hS14_128 => assumption
      case hy14_128 => exact Or.inl ⟨rfl, by intro W hW; (try dsimp only at hW); go_simp; (try with_reducible rfl)⟩
      try simp only [Act.put, List.setIfInBounds_toArray, List.set_cons_zero, List.set_cons_succ, List.getElem_toArray, List.getElem_cons_zero, List.getElem_cons_succ]
      refine wpAnyH_take (i := 15) (oi := ?oi15_137) (v := ?v15_137) ?hi15_137 ?hs15_137 ?hf15_137 ?hr15_137 ?hQ15_137 ?hy15_137 ?hS15_137 ?rest15_137
      case hi15_137 => rfl
      case hs15_137 => kernel_rfl
      case hf15_137 => kernel_rfl
      case hr15_137 => kernel_rfl
      case hQ15_137 => exact fun _ _ _ h => h
      case hS15_137 => assumption
      case hy15_137 => exact Or.inl ⟨rfl, by intro W hW; (try dsimp only at hW); go_simp; (try with_reducible rfl)⟩
      try simp only [Act.put, List.setIfInBounds_toArray, List.set_cons_zero, List.set_cons_succ, List.getElem_toArray, List.getElem_cons_zero, List.getElem_cons_succ]
      refine wpAnyH_ready (rs := [10]) (by kernel_rfl) (by simp) ?_
      refine AllReadyH.cons rfl (fun K hK => ?_) AllReadyH.nil
      go_simp
      refine (len_any HS2.out.a).mono ?_
      rintro e w3 ⟨rfl, rfl⟩
      rw [length_ints]
      go_wp2_with fail
      refine hK.out _ _ (⟨⟨hd1, hd2⟩, hr0, hr2⟩) (fun hHeld3 => ?_)
      clear hK K
      try simp only [Act.put, List.setIfInBounds_toArray, List.set_cons_zero, List.set_cons_succ, List.getElem_toArray, List.getElem_cons_zero, List.getElem_cons_succ]
      refine wpAnyH_take (i := 16) (oi := ?oi16_156) (v := ?v16_156) ?hi16_156 ?hs16_156 ?hf16_156 ?hr16_156 ?hQ16_156 ?hy16_156 ?hS16_156 ?rest16_156
      case hi16_156 => rfl
      case hs16_156 => kernel_rfl
      case hf16_156 => kernel_rfl
      case hr16_156 => kernel_rfl
      case hQ16_156 => exact fun _ _ _ h => h
      case hS16_156 => assumption
      case hy16_156 => exact Or.inl ⟨rfl, by intro W hW; (try dsimp only at hW); go_simp; (try with_reducible rfl)⟩
      try simp only [Act.put, List.setIfInBounds_toArray, List.set_cons_zero, List.set_cons_succ, List.getElem_toArray, List.getElem_cons_zero, List.getElem_cons_succ]
      refine wpAnyH_take (i := 17) (oi := ?oi17_165) (v := ?v17_165) ?hi17_165 ?hs17_165 ?hf17_165 ?hr17_165 ?hQ17_165 ?hy17_165 ?hS17_165 ?rest17_165
      case hi17_165 => rfl
      case hs17_165 => kernel_rfl
      case hf17_165 => kernel_rfl
      case hr17_165 => kernel_rfl
      case hQ17_165 => exact fun _ _ _ h => h
      case hS17_165 => assumption
      case hy17_165 => exact Or.inl ⟨rfl, by intro W hW; (try dsimp only at hW); go_simp; (try with_reducible rfl)⟩
      try simp only [Act.put, List.setIfInBounds_toArray, List.set_cons_zero, List.set_cons_succ, List.getElem_toArray, List.getElem_cons_zero, List.getElem_cons_succ]
      refine wpAnyH_take (i := 18) (oi := ?oi18_174) (v := ?v18_174) ?hi18_174 ?hs18_174 ?hf18_174 ?hr18_174 ?hQ18_174 ?hy18_174 ?hS18_174 ?rest18_174
      case hi18_174 => rfl
      case hs18_174 => kernel_rfl
      case hf18_174 => kernel_rfl
      case hr18_174 => kernel_rfl
      case hQ18_174 => exact fun _ _ _ h => h
      case hS18_174 => assumption
      case hy18_174 => exact Or.inl ⟨rfl, by intro W hW; (try dsimp only at hW); go_simp; (try with_reducible rfl)⟩
      try simp only [Act.put, List.setIfInBounds_toArray, List.set_cons_zero, List.set_cons_succ, List.getElem_toArray, List.getElem_cons_zero, List.getElem_cons_succ]
      refine wpAnyH_take (i := 19) (oi := ?oi19_183) (v := ?v19_183) ?hi19_183 ?hs19_183 ?hf19_183 ?hr19_183 ?hQ19_183 ?hy19_183 ?hS19_183 ?rest19_183
      case hi19_183 => rfl
      case hs19_183 => kernel_rfl
      case hf19_183 => kernel_rfl
      case hr19_183 => kernel_rfl
      case hQ19_183 => exact fun _ _ _ h => h
      case hS19_183 => assumption
      case hy19_183 => exact Or.inl ⟨rfl, by intro W hW; (try dsimp only at hW); go_simp; (try with_reducible rfl)⟩
      try simp only [Act.put, List.setIfInBounds_toArray, List.set_cons_zero, List.set_cons_succ, List.getElem_toArray, List.getElem_cons_zero, List.getElem_cons_succ]
      refine wpAnyH_take (i := 21) (oi := ?oi21_192) (v := ?v21_192) ?hi21_192 ?hs21_192 ?hf21_192 ?hr21_192 ?hQ21_192 ?hy21_192 ?hS21_192 ?rest21_192
      case hi21_192 => rfl
      case hs21_192 => kernel_rfl
      case hf21_192 => kernel_rfl
      case hr21_192 => kernel_rfl
      case hQ21_192 => exact fun _ _ _ h => h
      case hS21_192 => assumption
      case hy21_192 => exact Or.inl ⟨rfl, by intro W hW; (try dsimp only at hW); go_simp; (try with_reducible rfl)⟩
      try simp only [Act.put, List.setIfInBounds_toArray, List.set_cons_zero, List.set_cons_succ, List.getElem_toArray, List.getElem_cons_zero, List.getElem_cons_succ]
      refine wpAnyH_ready (rs := [20]) (by kernel_rfl) (by simp) ?_
      refine AllReadyH.cons rfl (fun K hK => ?_) AllReadyH.nil
      go_simp
      refine (room_any HS2.out.a h2).mono ?_
      rintro e w4 ⟨rfl, d4, rfl⟩
      go_wp2_with fail
      refine hK.out _ _ (⟨⟨hd1, hd2⟩, hr0, hr2⟩) (fun hHeld3 => ?_)
      clear hK K
      try simp only [Act.put, List.setIfInBounds_toArray, List.set_cons_zero, List.set_cons_succ, List.getElem_toArray, List.getElem_cons_zero, List.getElem_cons_succ]
      refine wpAnyH_ready (rs := [22]) (by kernel_rfl) (by simp) ?_
      refine AllReadyH.cons rfl (fun K hK => ?_) AllReadyH.nil
      go_simp
      refine (ref_room (HS2.out.drewN d4).x h2).mono ?_
      rintro e w5 ⟨rfl, d5, rfl⟩
      go_wp2_with fail
      refine hK.out _ _ (⟨⟨hd1, hd2⟩, hr0, hr2⟩) (fun hHeld3 => ?_)
      clear hK K
      try simp only [Act.put, List.setIfInBounds_toArray, List.set_cons_zero, List.set_cons_succ, List.getElem_toArray, List.getElem_cons_zero, List.getElem_cons_succ]
      refine wpAnyH_take (i := 23) (oi := ?oi23_219) (v := ?v23_219) ?hi23_219 ?hs23_219 ?hf23_219 ?hr23_219 ?hQ23_219 ?hy23_219 ?hS23_219 ?rest23_219
      case hi23_219 => rfl
      case hs23_219 => kernel_rfl
      case hf23_219 => kernel_rfl
      case hr23_219 => kernel_rfl
      case hQ23_219 => exact fun _ _ _ h => h
      case hS23_219 => assumption
      case hy23_219 => exact Or.inl ⟨rfl, by intro W hW; (try dsimp only at hW); go_simp; (try with_reducible rfl)⟩
      try simp only [Act.put, List.setIfInBounds_toArray, List.set_cons_zero, List.set_cons_succ, List.getElem_toArray, List.getElem_cons_zero, List.getElem_cons_succ]
      refine wpAnyH_take (i := 24) (oi := ?oi24_228) (v := ?v24_228) ?hi24_228 ?hs24_228 ?hf24_228 ?hr24_228 ?hQ24_228 ?hy24_228 ?hS24_228 ?rest24_228
      case hi24_228 => rfl
      case hs24_228 => kernel_rfl
      case hf24_228 => kernel_rfl
      case hr24_228 => kernel_rfl
      case hQ24_228 => exact fun _ _ _ h => h
      case hS24_228 => assumption
      case hy24_228 => exact Or.inl ⟨rfl, by intro W hW; (try dsimp only at hW); go_simp; (try with_reducible rfl)⟩
      try simp only [Act.put, List.setIfInBounds_toArray, List.set_cons_zero, List.set_cons_succ, List.getElem_toArray, List.getElem_cons_zero, List.getElem_cons_succ]
      refine wpAnyH_take (i := 25) (oi := ?oi25_237) (v := ?v25_237) ?hi25_237 ?hs25_237 ?hf25_237 ?hr25_237 ?hQ25_237 ?hy25_237 ?hS25_237 ?rest25_237
      case hi25_237 => rfl
      case hs25_237 => kernel_rfl
      case hf25_237 => kernel_rfl
      case hr25_237 => kernel_rfl
      case hQ25_237 => exact fun _ _ _ h => h
      case hS25_237 => assumption
      case hy25_237 => exact Or.inl ⟨rfl, by intro W hW; (try dsimp only at hW); go_simp; (try with_reducible rfl)⟩
      try simp only [Act.put, List.setIfInBounds_toArray, List.set_cons_zero, List.set_cons_succ, List.getElem_toArray, List.getElem_cons_zero, List.getElem_cons_succ]
      refine wpAnyH_take (i := 26) (oi := ?oi26_246) (v := ?v26_246) ?hi26_246 ?hs26_246 ?hf26_246 ?hr26_246 ?hQ26_246 ?hy26_246 ?hS26_246 ?rest26_246
      case hi26_246 => rfl
      case hs26_246 => kernel_rfl
      case hf26_246 => kernel_rfl
      case hr26_246 => kernel_rfl
      case hQ26_246 => exact fun _ _ _ h => h
      case hS26_246 => assumption
      case hy26_246 => exact Or.inl ⟨rfl, by intro W hW; (try dsimp only at hW); go_simp; (try with_reducible rfl)⟩
      try simp only [Act.put, List.setIfInBounds_toArray, List.set_cons_zero, List.set_cons_succ, List.getElem_toArray, List.getElem_cons_zero, List.getElem_cons_succ]
      refine wpAnyH_take (i := 28) (oi := ?oi28_255) (v := ?v28_255) ?hi28_255 ?hs28_255 ?hf28_255 ?hr28_255 ?hQ28_255 ?hy28_255 ?hS28_255 ?rest28_255
      case hi28_255 => rfl
      case hs28_255 => kernel_rfl
      case hf28_255 => kernel_rfl
      case hr28_255 => kernel_rfl
      case hQ28_255 => exact fun _ _ _ h => h
      case hS28_255 => assumption
      case hy28_255 => exact Or.inl ⟨rfl, by intro W hW; (try dsimp only at hW); go_simp; (try with_reducible rfl)⟩
      try simp only [Act.put, List.setIfInBounds_toArray, List.set_cons_zero, List.set_cons_succ, List.getElem_toArray, List.getElem_cons_zero, List.getElem_cons_succ]
      refine wpAnyH_take (i := 29) (oi := ?oi29_264) (v := ?v29_264) ?hi29_264 ?hs29_264 ?hf29_264 ?hr29_264 ?hQ29_264 ?hy29_264 ?hS29_264 ?rest29_264
      case hi29_264 => rfl
      case hs29_264 => kernel_rfl
      case hf29_264 => kernel_rfl
      case hr29_264 => kernel_rfl
      case hQ29_264 => exact fun _ _ _ h => h
      case hS29_264 => assumption
      case hy29_264 => exact Or.inl ⟨rfl, by intro W hW; (try dsimp only at hW); go_simp; (try with_reducible rfl)⟩
      try simp only [Act.put, List.setIfInBounds_toArray, List.set_cons_zero, List.set_cons_succ, List.getElem_toArray, List.getElem_cons_zero, List.getElem_cons_succ]
      refine wpAnyH_take (i := 30) (oi := ?oi30_273) (v := ?v30_273) ?hi30_273 ?hs30_273 ?hf30_273 ?hr30_273 ?hQ30_273 ?hy30_273 ?hS30_273 ?rest30_273
      case hi30_273 => rfl
      case hs30_273 => kernel_rfl
      case hf30_273 => kernel_rfl
      case hr30_273 => kernel_rfl
      case hQ30_273 => exact fun _ _ _ h => h
      case hS30_273 => assumption
      case hy30_273 => exact Or.inl ⟨rfl, by intro W hW; (try dsimp only at hW); go_simp; (try with_reducible rfl)⟩
      try simp only [Act.put, List.setIfInBounds_toArray, List.set_cons_zero, List.set_cons_succ, List.getElem_toArray, List.getElem_cons_zero, List.getElem_cons_succ]
      refine wpAnyH_take (i := 31) (oi := ?oi31_282) (v := ?v31_282) ?hi31_282 ?hs31_282 ?hf31_282 ?hr31_282 ?hQ31_282 ?hy31_282 ?hS31_282 ?rest31_282
      case hi31_282 => rfl
      case hs31_282 => kernel_rfl
      case hf31_282 => kernel_rfl
      case hr31_282 => kernel_rfl
      case hQ31_282 => exact fun _ _ _ h => h
      case hS31_282 => assumption
      case hy31_282 => exact Or.inl ⟨rfl, by intro W hW; (try dsimp only at hW); go_simp; (try with_reducible rfl)⟩
      try simp only [Act.put, List.setIfInBounds_toArray, List.set_cons_zero, List.set_cons_succ, List.getElem_toArray, List.getElem_cons_zero, List.getElem_cons_succ]
      refine wpAnyH_ready (rs := [27]) (by kernel_rfl) (by simp) ?_
      refine AllReadyH.cons rfl (fun K hK => ?_) AllReadyH.nil
      go_simp
      refine (closed_any (HS2.out.drewN (d4 + d5)).a).mono ?_
      rintro e w6 ⟨rfl, rfl⟩
      go_wp2_with fail
      refine hK.out _ _ (⟨⟨hd1, hd2⟩, hr0, hr2⟩) (fun hHeld3 => ?_)
      clear hK K
      try simp only [Act.put, List.setIfInBounds_toArray, List.set_cons_zero, List.set_cons_succ, List.getElem_toArray, List.getElem_cons_zero, List.getElem_cons_succ]
      refine wpAnyH_take (i := 32) (oi := ?oi32_300) (v := ?v32_300) ?hi32_300 ?hs32_300 ?hf32_300 ?hr32_300 ?hQ32_300 ?hy32_300 ?hS32_300 ?rest32_300
      case hi32_300 => rfl
      case hs32_300 => kernel_rfl
      case hf32_300 => kernel_rfl
      case hr32_300 => kernel_rfl
      case hQ32_300 => exact fun _ _ _ h => h
      case hS32_300 => assumption
      case hy32_300 => exact Or.inl ⟨rfl, by intro W hW; (try dsimp only at hW); go_simp; (try with_reducible rfl)⟩
      try simp only [Act.put, List.setIfInBounds_toArray, List.set_cons_zero, List.set_cons_succ, List.getElem_toArray, List.getElem_cons_zero, List.getElem_cons_succ]
      refine wpAnyH_take (i := 33) (oi := ?oi33_309) (v := ?v33_309) ?hi33_309 ?hs33_309 ?hf33_309 ?hr33_309 ?hQ33_309 ?hy33_309 ?hS33_309 ?rest33_309
      case hi33_309 => rfl
      case hs33_309 => kernel_rfl
      case hf33_309 => kernel_rfl
      case hr33_309 => kernel_rfl
      case hQ33_309 => exact fun _ _ _ h => h
      case hS33_309 => assumption
      case hy33_309 => exact Or.inl ⟨rfl, by intro W hW; (try dsimp only at hW); go_simp; (try with_reducible rfl)⟩
      try simp only [Act.put, List.setIfInBounds_toArray, List.set_cons_zero, List.set_cons_succ, List.getElem_toArray, List.getElem_cons_zero, List.getElem_cons_succ]
      refine wpAnyH_done (by kernel_rfl) ?_ _
      have hroom : roomOf cl2 (ints l2) m = roomOf cl2 (ints l2) m := rfl
      clear hroom
      go_wp2
      go_roundg (gk - 1)
      case measure => omega
      case rel => exact ⟨k + 1, by omega, by go_num, _, _, HS2.out.drewN (d4 + d5)⟩
    · obtain rfl : k = l.length := by omega
      have HS := Lib.hid hs
      clear hs
      go_wp2_with fail
      refine (awake02 _).mono ?_
      rintro e w7 ⟨rfl, hb7⟩
      go_wp2
      go_ret
      exact ⟨rfl, HS.out.bel.trans (hb7.mono HS.out.bel.size)⟩

theorem walk (most : Int) (v : Value) (l : List (Int × Int)) (w : World) (hv : Rd w 2 v l.length (opCells l)) :
    Calls Try.prog 7 #[.int .i64 most, v] w fun e w' => e = .returned (.bool true) ∧ Below w.heap.size w w' := by
  by_cases h : most < 1 ∨ 1024 < most ∨ 100 < l.length
  · exact early most v l w hv h
  · obtain ⟨m, rfl⟩ := Int.eq_ofNat_of_zero_le (show 0 ≤ most by omega)
    exact main m v l w hv (by omega) (by omega) (by omega)

theorem cells62 : Try.prog.cellsOf 62 = 2 := by kernel_rfl
theorem cells3 : Try.prog.cellsOf 3 = 1 := by kernel_rfl

theorem opEl {H : Type} {enc : TypeId × Value → H} {W : World} (n : Nat) (cs : List Value) (x : DataW H × List MemPlace) (h : DataW.trod enc Try.prog W 0 (fun _ => true) true n 62 cs = some x) :
    ∃ p : Int × Int, cs = [.int .i64 p.1, .int .i64 p.2] ∧ True := by
  obtain ⟨y0, y1, m, _, hl, h0, h1⟩ := trod_struct2 Try.underlying62 h
  rw [cells62] at hl
  match cs, hl with
  | [c0, c1], _ =>
    simp only [cells3, List.drop_zero, List.take_succ_cons, List.take_zero, List.drop_succ_cons] at h0 h1
    obtain ⟨a, ha, _, _⟩ := DataW.trod_int Try.underlying3 h0
    obtain ⟨b, hb, _, _⟩ := DataW.trod_int Try.underlying3 h1
    cases ha; cases hb
    exact ⟨(a, b), rfl, trivial⟩
theorem own : ownKnob Try.prog.godebug = none := by kernel_rfl

set_option maxRecDepth 100000 in
theorem lifted (os : Os) (started : os.Started) (H : Type) (enc : TypeId × Value → H) :
    ReturnsInHanded {} Try.checked os 7 .any (Rows.ringPlaysSpec.pre6 enc Try.prog Try.f7 Rows.ringPlaysRow.domain false) (Rows.ringPlaysSpec.post enc Try.prog Try.f7 false true false false) := by
  refine returnsInHanded_of_change (C := Try.checked) own started (by kernel_rfl) Try.func7
    (ChangeSpec.witness6 (enc := enc) (C := Try.checked) false ⟨#[], #[.int .i64 0, .slice none 0 0], []⟩ 8 (by kernel_rfl) (by kernel_rfl) (by kernel_rfl) (by kernel_rfl)) ?_
  intro W base args ds gs before hval0 hW hcnd _
  have hval : ∀ (j : Nat) t v, Try.f7.params[j]? = some t → args[j]? = some v → Value.okWide Try.prog W .any base t v := hval0
  have hW' := hW
  obtain ⟨p, q, hA0, hV, rfl, hfz, hnd⟩ := hW
  have hA : DataW.TrodAll enc Try.prog W 0 (fun _ => true) true Try.f7.params.toList args.toList ds p := hA0
  rw [Try.params7] at hA hval
  obtain ⟨v0, vs0, d0, ds0, p0, q0, hargs, rfl, rfl, h0, r0⟩ := trodAll_cons hA
  obtain ⟨v1, vs1, d1, ds1, p1, q1, rfl, rfl, rfl, h1, r1⟩ := trodAll_cons r0
  obtain ⟨rfl, rfl, rfl⟩ := trodAll_nil r1
  obtain rfl : args = #[v0, v1] := by cases args; simp_all
  obtain ⟨rfl, rfl⟩ := trodVars_none hV
  obtain ⟨a0, rfl, rfl, rfl, w0⟩ := open_int Try.underlying3 (hval 0 3 v0 rfl rfl) h0
  obtain ⟨l, hl, _⟩ := open_rd (fun p : Int × Int => [.int .i64 p.1, .int .i64 p.2]) (fun _ => True) (k := 2) (fun _ => rfl) (by decide) Try.underlying56 cells62 opEl (hval 1 56 v1 rfl rfl) h1
  refine (walk a0 v1 l W hl).mono fun e W' ⟨he, hb⟩ => ?_
  subst he
  exact ⟨_, rfl, law_post (T := 4) (by kernel_rfl) (by kernel_rfl) rfl Try.underlying4 rfl rfl hW' hb⟩

theorem over : Rows.ringPlaysRow.holds Try.pinned (OpenSpec.ofChange Rows.ringPlaysSpec) :=
  OpenClaim.holds_of_wide 7 Try.f7 rfl rfl rfl rfl rfl rfl rfl ⟨rfl, rfl, rfl, rfl, rfl⟩ rfl rfl rfl rfl rfl (by kernel_rfl) Try.func7 (by kernel_rfl)
    (of_decide_eq_true (by kernel_rfl)) (by unfold Func.isWrapper; first | (rw [if_pos (by decide +kernel)]; kernel_rfl) | (rw [if_neg (by decide +kernel)]; exact ⟨rfl, rfl⟩))
    (fun os started H enc _ => lifted os started H enc)

/-- The statement. -/
theorem proved : Rows.RingPlaysSaid :=
  over
end Go.Proofs.Ytolhlfahoooliaa.ringPlays
