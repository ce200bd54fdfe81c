/- What goes through two rings, one behind the other, comes out as through one, whenever things are passed on. No condition. -/
import Derived.Test.YtolhlfahoooliaaAwake02
import Derived.Test.YtolhlfahoooliaaLaw
import Derived.Test.YtolhlfahoooliaaRows
namespace Go.Proofs.Ytolhlfahoooliaa.ringChain
open Go Go.RowKit Go.ChangeShapes Go.WideShapes Go.ChangeAt Go.Proofs.Ytolhlfahoooliaa Go.Conc

abbrev RI := 76

/-- The two rings, and the two lists. N: the heap's size when the first ring was made. -/
structure St (w wr : World) (N ca cb : Nat) (pv gv : Value) (put got bl al : List Int) : Prop where
  a : RingAt RI wr (N + 1) N ca (ints al) false
  b : RingAt RI wr (N + 3) (N + 2) cb (ints bl) false
  p : Sl wr 3 1 pv put.length (ints put)
  g : Sl wr 3 1 gv got.length (ints got)
  fp : From (N + 4) pv
  fg : From (N + 4) gv
  d : Dis pv gv
  bel : Below w.heap.size w wr
  sz : N + 4 ≤ wr.heap.size
  n : w.heap.size ≤ N

section
variable {w wr wr' : World} {N ca cb : Nat} {pv gv : Value} {put got bl al : List Int}

theorem St.setA (h : St w wr N ca cb pv gv put got bl al) {al' : List Int} (hr : RingAt RI wr' (N + 1) N ca (ints al') false) (hu : Upd (bc (N + 1) N) wr wr') : St w wr' N ca cb pv gv put got bl al' :=
  ⟨hr, h.b.keep hu (by rintro (h | h) <;> omega) (by rintro (h | h) <;> omega), h.p.keep_lt h.fp hu (bc_lt (by omega) (by omega)), h.g.keep_lt h.fg hu (bc_lt (by omega) (by omega)), h.fp, h.fg, h.d,
   below_upd h.bel hu (Nat.le_refl _) (bc_ge (by have := h.n; omega) (by have := h.n; omega)), Nat.le_trans h.sz hu.size, h.n⟩
theorem St.setB (h : St w wr N ca cb pv gv put got bl al) {bl' : List Int} (hr : RingAt RI wr' (N + 3) (N + 2) cb (ints bl') false) (hu : Upd (bc (N + 3) (N + 2)) wr wr') : St w wr' N ca cb pv gv put got bl' al :=
  ⟨h.a.keep hu (by rintro (h | h) <;> omega) (by rintro (h | h) <;> omega), hr, h.p.keep_lt h.fp hu (bc_lt (by omega) (by omega)), h.g.keep_lt h.fg hu (bc_lt (by omega) (by omega)), h.fp, h.fg, h.d,
   below_upd h.bel hu (Nat.le_refl _) (bc_ge (by have := h.n; omega) (by have := h.n; omega)), Nat.le_trans h.sz hu.size, h.n⟩
theorem St.setP (h : St w wr N ca cb pv gv put got bl al) {pv' : Value} {put' : List Int} (hs : Sl wr' 3 1 pv' put'.length (ints put')) (hu : Upd (ownS pv) wr wr') (hb : blockFrom wr pv pv') : St w wr' N ca cb pv' gv put' got bl al :=
  ⟨h.a.keep_from (B := N + 4) hu (by omega) (by omega) h.fp.own, h.b.keep_from (B := N + 4) hu (by omega) (by omega) h.fp.own, hs, h.g.keep_dis h.d.symm hu, hb.ge h.sz h.fp, h.fg, h.d.from hb (fun _ hg => h.g.lt hg),
   below_upd h.bel hu (Nat.le_refl _) ((h.fp.mono (by have := h.n; omega)).own), Nat.le_trans h.sz hu.size, h.n⟩
theorem St.setG (h : St w wr N ca cb pv gv put got bl al) {gv' : Value} {got' : List Int} (hs : Sl wr' 3 1 gv' got'.length (ints got')) (hu : Upd (ownS gv) wr wr') (hb : blockFrom wr gv gv') : St w wr' N ca cb pv gv' put got' bl al :=
  ⟨h.a.keep_from (B := N + 4) hu (by omega) (by omega) h.fg.own, h.b.keep_from (B := N + 4) hu (by omega) (by omega) h.fg.own, h.p.keep_dis h.d hu, hs, h.fp, hb.ge h.sz h.fg, (h.d.symm.from hb (fun _ hg => h.p.lt hg)).symm,
   below_upd h.bel hu (Nat.le_refl _) ((h.fg.mono (by have := h.n; omega)).own), Nat.le_trans h.sz hu.size, h.n⟩
theorem St.drewN (h : St w wr N ca cb pv gv put got bl al) (k : Nat) : St w (wr.drewN k) N ca cb pv gv put got bl al :=
  have hu : Upd (fun _ => False) wr (wr.drewN k) := (Upd.refl _ _).drewN k
  ⟨h.a.keep hu (fun h => h) (fun h => h), h.b.keep hu (fun h => h) (fun h => h), h.p.keep hu (fun _ _ h => h), h.g.keep hu (fun _ _ h => h), h.fp, h.fg, h.d, below_drewN h.bel k, h.sz, h.n⟩
end

theorem early (v : Value) (l : List Int) (n x y : Int) (w : World) (hv : Rd w 1 v l.length (ints l)) (h : x < 1 ∨ 1024 < x ∨ y < 1 ∨ 1024 < y ∨ 200 < l.length ∨ n < 1) :
    Calls Try.prog 6 #[v, .int .i64 n, .agg #[.int .i64 x, .int .i64 y]] w fun e w' => e = .returned (.bool true) ∧ Below w.heap.size w w' := by
  have hle := hv.le
  unfold maxLen at hle
  obtain ⟨ao, c, rfl⟩ := hv.nil_iff
  clear hv
  have hb0 : Below w.heap.size w (w.alloc (.cells #[.int .i64 x, .int .i64 y] 53)) := (Below.refl _ _).alloc (Nat.le_refl _) _
  have hy : (w.alloc (.cells #[.int .i64 x, .int .i64 y] 53)).cell? ⟨w.heap.size, 1, none⟩ = some (.int .i64 y) := by rw [cell_of_block (heap_alloc_last w _ rfl)]; rfl
  by_cases h1 : x < 1 ∨ 1024 < x
  · have H1 := Lib.hid h1
    clear h1 h
    by_cases h2 : y < 1 ∨ 1024 < y
    · have H2 := Lib.hid h2
      clear h2
      go_enter Try.func6, Try.ntmps6
      go_wp2_with fail
      refine (new_bad _ _ H1.out).mono ?_
      rintro e w1 ⟨rfl, rfl⟩
      go_wp2_with fail
      refine (new_bad _ _ H2.out).mono ?_
      rintro e w1 ⟨rfl, rfl⟩
      go_wp2_with fail
      refine (awake02 _).mono ?_
      rintro e w' ⟨rfl, hb⟩
      go_wp2
      go_ret
      exact ⟨rfl, hb0.trans (hb.mono hb0.size)⟩
    · have H2 : Hid (1 ≤ y ∧ y ≤ 1024) := ⟨by omega, by omega⟩
      clear h2
      go_enter Try.func6, Try.ntmps6
      go_wp2_with fail
      refine (new_bad _ _ H1.out).mono ?_
      rintro e w1 ⟨rfl, rfl⟩
      go_wp2_with fail
      refine (new_ok _ _ H2.out.1 H2.out.2).mono ?_
      rintro e w1 ⟨rfl, _, hb1⟩
      go_wp2_with fail
      refine (awake02 _).mono ?_
      rintro e w' ⟨rfl, hb⟩
      go_wp2
      go_ret
      have hb1 := hb0.trans (hb1.mono hb0.size)
      exact ⟨rfl, hb1.trans (hb.mono hb1.size)⟩
  · have H1 : Hid (1 ≤ x ∧ x ≤ 1024) := ⟨by omega, by omega⟩
    by_cases h2 : y < 1 ∨ 1024 < y
    · have H2 := Lib.hid h2
      clear h1 h2 h
      go_enter Try.func6, Try.ntmps6
      go_wp2_with fail
      refine (new_ok _ _ H1.out.1 H1.out.2).mono ?_
      rintro e w1 ⟨rfl, _, hb1'⟩
      have hb1 := hb0.trans (hb1'.mono hb0.size)
      have hc1 : w1.cell? ⟨w.heap.size, 1, none⟩ = some (.int .i64 y) := (hb1'.cell (p := ⟨w.heap.size, 1, none⟩) (by simp)).trans hy
      go_wp2_with fail
      refine (new_bad _ _ H2.out).mono ?_
      rintro e w1 ⟨rfl, rfl⟩
      go_wp2_with fail
      refine (awake02 _).mono ?_
      rintro e w' ⟨rfl, hb⟩
      go_wp2
      go_ret
      exact ⟨rfl, hb1.trans (hb.mono hb1.size)⟩
    · have H2 : Hid (1 ≤ y ∧ y ≤ 1024) := ⟨by omega, by omega⟩
      by_cases h3 : 200 < l.length
      · clear h1 h2 h
        go_enter Try.func6, Try.ntmps6
        go_wp2_with fail
        refine (new_ok _ _ H1.out.1 H1.out.2).mono ?_
        rintro e w1 ⟨rfl, _, hb1'⟩
        have hb1 := hb0.trans (hb1'.mono hb0.size)
        have hc1 : w1.cell? ⟨w.heap.size, 1, none⟩ = some (.int .i64 y) := (hb1'.cell (p := ⟨w.heap.size, 1, none⟩) (by simp)).trans hy
        go_wp2_with fail
        refine (new_ok _ _ H2.out.1 H2.out.2).mono ?_
        rintro e w2 ⟨rfl, _, hb2⟩
        have hb2 := hb1.trans (hb2.mono hb1.size)
        go_wp2_with fail
        refine (awake02 _).mono ?_
        rintro e w' ⟨rfl, hb⟩
        go_wp2
        go_ret
        exact ⟨rfl, hb2.trans (hb.mono hb2.size)⟩
      · have h4 : n < 1 := by omega
        clear h1 h2 h
        go_enter Try.func6, Try.ntmps6
        go_wp2_with fail
        refine (new_ok _ _ H1.out.1 H1.out.2).mono ?_
        rintro e w1 ⟨rfl, _, hb1'⟩
        have hb1 := hb0.trans (hb1'.mono hb0.size)
        have hc1 : w1.cell? ⟨w.heap.size, 1, none⟩ = some (.int .i64 y) := (hb1'.cell (p := ⟨w.heap.size, 1, none⟩) (by simp)).trans hy
        go_wp2_with fail
        refine (new_ok _ _ H2.out.1 H2.out.2).mono ?_
        rintro e w2 ⟨rfl, _, hb2⟩
        have hb2 := hb1.trans (hb2.mono hb1.size)
        go_wp2_with fail
        refine (awake02 _).mono ?_
        rintro e w' ⟨rfl, hb⟩
        go_wp2
        go_ret
        exact ⟨rfl, hb2.trans (hb.mono hb2.size)⟩

/-- The state at the rounds' heads. -/
def Ok (w wr : World) (N ca cb : Nat) (pv gv : Value) (k : Nat) : Prop :=
  ∃ put got bl al : List Int, St w wr N ca cb pv gv put got bl al ∧ put = got ++ (bl ++ al) ∧ put.length ≤ k

set_option maxRecDepth 100000 in
set_option maxHeartbeats 4000000 in
theorem main (v : Value) (l : List Int) (n : Int) (ca cb : Nat) (w : World) (hv : Rd w 1 v l.length (ints l)) (ha1 : 1 ≤ ca) (ha2 : ca ≤ 1024) (hb1 : 1 ≤ cb) (hb2 : cb ≤ 1024) (hl : l.length ≤ 200) (hn : 1 ≤ n) :
    Calls Try.prog 6 #[v, .int .i64 n, .agg #[.int .i64 ca, .int .i64 cb]] w fun e w' => e = .returned (.bool true) ∧ Below w.heap.size w w' := by
  obtain ⟨i0, hi, hz0, hz1, hz2⟩ := info_parts infoInt
  have HV := Lib.hid hv
  obtain ⟨ao, c, rfl⟩ := hv.nil_iff
  clear hv
  have hbw : Below w.heap.size w (w.alloc (.cells #[.int .i64 ca, .int .i64 cb] 53)) := (Below.refl _ _).alloc (Nat.le_refl _) _
  have hy : (w.alloc (.cells #[.int .i64 ca, .int .i64 cb] 53)).cell? ⟨w.heap.size, 1, none⟩ = some (.int .i64 cb) := by rw [cell_of_block (heap_alloc_last w _ rfl)]; rfl
  go_enter Try.func6, Try.ntmps6
  go_wp2_with fail
  refine (new_ok2 _ _ (by omega) (by omega)).mono ?_
  rintro e w1 ⟨rfl, hr1, hbb1, hz1'⟩
  rw [Int.toNat_natCast] at hr1
  have hc1 : w1.cell? ⟨w.heap.size, 1, none⟩ = some (.int .i64 cb) := (hbb1.cell (p := ⟨w.heap.size, 1, none⟩) (by simp)).trans hy
  have HB1 := Lib.hid (hbw.trans (hbb1.mono hbw.size))
  have hz1 := Lib.hid hz1'
  have HR1 := Lib.hid hr1
  clear hbb1 hy hz1' hr1 hbw
  go_wp2_with fail
  refine (new_ok2 _ _ (by omega) (by omega)).mono ?_
  rintro e w2 ⟨rfl, hr2, hbb2, hz2'⟩
  rw [Int.toNat_natCast] at hr2
  have hst : St w w2 (w.heap.size + 1) ca cb (.slice none 0 0) (.slice none 0 0) [] [] [] [] := by
    have e1 := hz1.out
    simp only [World.size_alloc] at e1 hr2
    have hr1 := HR1.out
    simp only [World.size_alloc] at hr1
    rw [e1] at hr2 hz2'
    refine ⟨?_, hr2, Sl.nil _ _ _, Sl.nil _ _ _, From.nil _ _ _, From.nil _ _ _, Dis.nil _ _ _, HB1.out.trans (hbb2.mono HB1.out.size), by omega, by omega⟩
    exact hr1.keep (Upd.of_below (S := fun _ => False) hbb2) (fun h => h) (fun h => h)
  have HST := Lib.hid hst
  have hz3 : Hid (w1.heap.size = w.heap.size + 1 + 2) := by show _ = _; have := hz1.out; simp only [World.size_alloc] at this; omega
  clear hr2 hbb2 hz2' hst hc1 HB1 HR1 hz1
  go_wp2_with fail
  rw [hz3.out, show w.heap.size + 1 + 2 + 1 = w.heap.size + 1 + 3 from rfl]
  clear hz3
  go_loopg [11, 12, 13] l.length (fun g pv gv i wr => ∃ k : Nat, k + g = l.length ∧ i = .int .i64 k ∧ Ok w wr (w.heap.size + 1) ca cb pv gv k)
  case atStart => exact ⟨0, by omega, rfl, [], [], [], [], HST.out, rfl, Nat.le_refl _⟩
  case round =>
    clear HST
    obtain ⟨k, hk, rfl, put, got, bl, al, hs, he, hpl⟩ := hrel
    obtain ⟨gko, hgko⟩ : ∃ gko, gko = gk := ⟨_, rfl⟩
    subst hgko
    have HE := Lib.hid he
    clear he
    obtain ⟨po, pc, rfl⟩ := hs.p.rd.nil_iff
    have HS := Lib.hid hs
    clear hs
    by_cases hlt : k < l.length
    · obtain ⟨blk, off, c', hvv, hbl, hcells⟩ := HV.out.at (by omega)
      cases hvv
      have hcell : ∀ wx, Below w.heap.size w wx → wx.cell? ⟨blk, off + k, none⟩ = some (.int .i64 l[k]) := fun wx hb => (hb.cell hbl).trans (hcells k _ (get_ints hlt))
      have HC := Lib.hid hcell
      clear hcells hcell
      have hc := HC.out _ HS.out.bel
      rcases Nat.lt_or_ge al.length ca with hroom | hroom
      case' _ =>
        go_wp2_with fail
        refine (put_ok HS.out.a _ (by simpa using hroom)).mono ?_
        rintro e w3 ⟨rfl, hr3, hu3⟩
        have hs3 := HS.out.setA (al' := al ++ [l[k]]) (by simpa using hr3) hu3
        have hc3 := HC.out _ hs3.bel
        have HS3 := Lib.hid hs3
        clear hs3 hu3 hr3 hc
        go_wp2_with (at_builtin; refine wpList_append_one rfl _ _ 42 rfl i0 (.int .i64 0) 8 Try.underlying42 hi hz0 hz1 hz2 rfl (by decide) rfl HS3.out.p [.int .i64 l[k]] rfl rfl (by simp [Value.oneCell']) (by unfold maxLen; omega) (by omega) ?_)
        intro pv' w4 hp4 hu4 hb4
        have HK : Hid (Ok w w4 (w.heap.size + 1) ca cb pv' u12 (k + 1)) :=
          ⟨put ++ [l[k]], got, bl, al ++ [l[k]], HS3.out.setP (put' := put ++ [l[k]]) (by rw [ints_append, List.length_append]; exact hp4) hu4 hb4, by rw [HE.out]; simp, by simp; omega⟩
        clear hp4 hu4 hb4 hc3 HS3 HE HC HS
        go_wp2_with fail
      rotate_left
      case' _ =>
        go_wp2_with fail
        refine (put_full HS.out.a _ (by simpa using hroom)).mono ?_
        rintro e w4 ⟨rfl, hr3, hu3⟩
        have HK : Hid (Ok w w4 (w.heap.size + 1) ca cb (.slice po put.length pc) u12 (k + 1)) :=
          ⟨put, got, bl, al, HS.out.setA hr3 hu3, HE.out, by omega⟩
        obtain ⟨pv', hpv'⟩ : ∃ pv' : Value, pv' = .slice po put.length pc := ⟨_, rfl⟩
        rw [← hpv'] at HK
        clear hu3 hr3 hc HE HC HS
        go_wp2_with fail
        rw [← hpv']
        clear hpv'
      all_goals
        clear hroom hpl
        go_loopg [12, 14] 10 (fun g gv i wr => ∃ k2 : Nat, k2 + g = 10 ∧ i = .int .i64 k2 ∧ Ok w wr (w.heap.size + 1) ca cb pv' gv (k + 1))
        case atStart => exact ⟨0, by omega, rfl, HK.out⟩
        case round =>
          clear HK
          obtain ⟨k2, hk2, rfl, put, got, bl, al, hs, he, hpl⟩ := hrel
          have HE := Lib.hid he
          clear he
          have hgl : got.length ≤ k + 1 := by have := HE.out; rw [this] at hpl; simp at hpl; omega
          have hbl2 := hs.b.le
          simp only [length_ints] at hbl2
          obtain ⟨go, gc, rfl⟩ := hs.g.rd.nil_iff
          have HS := Lib.hid hs
          clear hs
          have hkk : k2 ≤ 10 := by omega
          have hout : Hid (Ok w wr (w.heap.size + 1) ca cb pv' (.slice go got.length gc) (k + 1)) := ⟨put, got, bl, al, HS.out, HE.out, hpl⟩
          by_cases hin1 : (k2 : Int) < n
          · by_cases hin2 : k2 < 10
            · rcases Nat.lt_or_ge bl.length cb with hfull | hfull
              case' _ =>
                have hro : (roomOf false (ints bl) cb == 0) = false := by simp [roomOf]; omega
                go_wp2_with fail
                refine (room_any HS.out.b hb2).mono ?_
                rintro e w5 ⟨rfl, d, rfl⟩
                have HS6 := Lib.hid (HS.out.drewN d)
                obtain ⟨w6, hw6⟩ : ∃ w6 : World, w6 = wr.drewN d := ⟨_, rfl⟩
                rw [← hw6] at HS6 ⊢
                have HP : Hid (∃ got', St w w6 (w.heap.size + 1) ca cb pv' (.slice go got.length gc) put got' bl al ∧ put = got' ++ (bl ++ al)) := ⟨got, HS6.out, HE.out⟩
                clear HS HS6 hout hw6 HE hbl2 hgl
                go_wp2_with fail
                clear hro
              rotate_left
              case' _ =>
                have hbe : bl.length = cb := by omega
                obtain ⟨x, bl2, rfl⟩ : ∃ x t, bl = x :: t := by
                  cases bl with
                  | nil => simp at hbe; omega
                  | cons x t => exact ⟨x, t, rfl⟩
                obtain ⟨bl, rfl⟩ : ∃ bl, bl = bl2 := ⟨_, rfl⟩
                have hro : roomOf false (ints (x :: bl)) cb = 0 := by simp [roomOf] at hbe ⊢; omega
                go_wp2_with fail
                refine (room_any HS.out.b hb2).mono ?_
                rintro e w5 ⟨rfl, d, rfl⟩
                rw [hro]
                have HS5 := Lib.hid (HS.out.drewN d)
                obtain ⟨w5, hw5⟩ : ∃ w5 : World, w5 = wr.drewN d := ⟨_, rfl⟩
                rw [← hw5] at HS5 ⊢
                clear HS hout hw5 hro
                have hrb := HS5.out.b
                rw [ints_cons] at hrb
                go_wp2_with fail
                refine (take_some hrb).mono ?_
                rintro e w7 ⟨rfl, hr7, hu7⟩
                have HS7 := Lib.hid (HS5.out.setB hr7 hu7)
                clear hrb hr7 hu7 HS5
                go_wp2_with (at_builtin; refine wpList_append_one rfl _ _ 42 rfl i0 (.int .i64 0) 8 Try.underlying42 hi hz0 hz1 hz2 rfl (by decide) rfl HS7.out.g [.int .i64 x] rfl rfl (by simp [Value.oneCell']) (by unfold maxLen; omega) (by omega) ?_)
                intro gv' w6 hg8 hu8 hb8
                have HS6 := Lib.hid (HS7.out.setG (got' := got ++ [x]) (by rw [ints_append, List.length_append]; exact hg8) hu8 hb8)
                have HP : Hid (∃ got', St w w6 (w.heap.size + 1) ca cb pv' gv' put got' bl al ∧ put = got' ++ (bl ++ al)) := ⟨_, HS6.out, by rw [HE.out]; simp⟩
                have hfull : bl.length < cb := by simp at hbe; omega
                clear hg8 hu8 hb8 HS7 HS6 HE hbe hbl2 hgl
                go_wp2_with fail
              all_goals
                obtain ⟨got', hs6, he6⟩ := HP.out
                have HS6 := Lib.hid hs6
                have HE6 := Lib.hid he6
                clear hs6 he6 HP
                cases al with
                | nil =>
                  go_wp2_with fail
                  refine (take_none HS6.out.a).mono ?_
                  rintro e w8 ⟨rfl, hr8, hu8⟩
                  have HS8 := Lib.hid (HS6.out.setA (al' := []) hr8 hu8)
                  clear hr8 hu8 HS6
                  go_wp2_with fail
                  go_roundg (gko - 1)
                  case measure => omega
                  case rel => exact ⟨k + 1, by omega, by go_num, _, _, _, _, HS8.out, HE6.out, hpl⟩
                | cons y al =>
                  have hra := HS6.out.a
                  rw [ints_cons] at hra
                  go_wp2_with fail
                  refine (take_some hra).mono ?_
                  rintro e w8 ⟨rfl, hr8, hu8⟩
                  have HS8 := Lib.hid (HS6.out.setA hr8 hu8)
                  clear hr8 hu8 HS6 hra
                  go_wp2_with fail
                  refine (put_ok HS8.out.b _ (by simpa using hfull)).mono ?_
                  rintro e w9 ⟨rfl, hr9, hu9⟩
                  have HS9 := Lib.hid (HS8.out.setB (bl' := bl ++ [y]) (by simpa using hr9) hu9)
                  clear hr9 hu9 HS8
                  go_wp2_with fail
                  go_roundg (gk - 1)
                  case measure => omega
                  case rel => exact ⟨k2 + 1, by omega, by go_num, _, _, _, _, HS9.out, by rw [HE6.out]; simp, hpl⟩
            · go_wp2_with fail
              go_roundg (gko - 1)
              case measure => omega
              case rel => exact ⟨k + 1, by omega, by go_num, hout.out⟩
          · go_wp2_with fail
            go_roundg (gko - 1)
            case measure => omega
            case rel => exact ⟨k + 1, by omega, by go_num, hout.out⟩
    · obtain rfl : k = l.length := by omega
      clear HV
      have hdl := HS.out.a.le
      simp only [length_ints] at hdl
      have hgl : got.length ≤ 200 ∧ bl.length ≤ 200 ∧ al.length ≤ 200 ∧ got.length + bl.length ≤ 200 ∧ got.length + bl.length + al.length ≤ 200 := by have := HE.out; rw [this] at hpl; simp at hpl; omega
      obtain ⟨hg1, hg2, hg3, hg4, hg5⟩ := hgl
      go_wp2_with fail
      refine (drain_any HS.out.b hb2).mono ?_
      rintro e w3 ⟨vb, rfl, hs3, hf3, hr3, hu3⟩
      have HS3 := Lib.hid (HS.out.setB (bl' := []) hr3 hu3)
      have HR3 := Lib.hid hs3.rd
      clear hs3 hr3 hu3
      go_wp2_with (at_builtin; refine wpList_append_sl rfl _ _ 42 rfl i0 (.int .i64 0) 8 Try.underlying42 hi hz0 hz1 hz2 rfl (by decide) rfl HS3.out.g _ bl.length (ints bl) rfl HR3.out (by simp [ints, Value.oneCell']) (by unfold maxLen; omega) (by omega) ?_)
      intro gv4 w4 hg4' hu4 hb4
      have HS4 := Lib.hid (HS3.out.setG (got' := got ++ bl) (by rw [ints_append, List.length_append]; exact hg4') hu4 hb4)
      clear hg4' hu4 hb4 HR3 HS3
      go_wp2_with fail
      refine (drain_any HS4.out.a ha2).mono ?_
      rintro e w5 ⟨va, rfl, hs5, hf5, hr5, hu5⟩
      have HS5 := Lib.hid (HS4.out.setA (al' := []) hr5 hu5)
      have HR5 := Lib.hid hs5.rd
      have hG5 := HS5.out.g
      rw [List.length_append] at hG5
      clear hs5 hr5 hu5
      go_wp2_with (at_builtin; refine wpList_append_sl rfl _ _ 42 rfl i0 (.int .i64 0) 8 Try.underlying42 hi hz0 hz1 hz2 rfl (by decide) rfl hG5 _ al.length (ints al) rfl HR5.out (by simp [ints, Value.oneCell']) (by unfold maxLen; omega) (by omega) ?_)
      intro gv6 w6 hg6 hu6 hb6
      have HS6 := Lib.hid (HS5.out.setG (got' := (got ++ bl) ++ al) (by rw [ints_append, ints_append, List.length_append, List.length_append, List.append_assoc]; exact hg6) hu6 hb6)
      clear hg6 hu6 hb6 HR5 HS5 hG5
      go_wp2_with fail
      refine (ints_any HS6.out.g.rd HS6.out.p.rd).mono ?_
      rintro e w7 ⟨rfl, d, rfl⟩
      have hde : decide ((got ++ bl) ++ al = put) = true := by rw [HE.out]; simp
      rw [hde]
      clear hde
      have HS7 := Lib.hid (HS6.out.drewN d)
      obtain ⟨w7, hw7⟩ : ∃ w7 : World, w7 = w6.drewN d := ⟨_, rfl⟩
      rw [← hw7] at HS7 ⊢
      clear hw7 HS6
      go_wp2_with fail
      refine (len_any HS7.out.a).mono ?_
      rintro e w8 ⟨rfl, rfl⟩
      go_wp2_with fail
      refine (len_any HS7.out.b).mono ?_
      rintro e w8 ⟨rfl, rfl⟩
      simp only [ints_nil, List.length_nil]
      go_wp2_with fail
      refine (awake02 _).mono ?_
      rintro e w9 ⟨rfl, hb9⟩
      go_wp2
      go_ret
      exact ⟨rfl, HS7.out.bel.trans (hb9.mono HS7.out.bel.size)⟩

theorem walk (v : Value) (l : List Int) (n x y : Int) (w : World) (hv : Rd w 1 v l.length (ints l)) :
    Calls Try.prog 6 #[v, .int .i64 n, .agg #[.int .i64 x, .int .i64 y]] w fun e w' => e = .returned (.bool true) ∧ Below w.heap.size w w' := by
  by_cases h : x < 1 ∨ 1024 < x ∨ y < 1 ∨ 1024 < y ∨ 200 < l.length ∨ n < 1
  · exact early v l n x y w hv h
  · obtain ⟨ca, rfl⟩ := Int.eq_ofNat_of_zero_le (show 0 ≤ x by omega)
    obtain ⟨cb, rfl⟩ := Int.eq_ofNat_of_zero_le (show 0 ≤ y by omega)
    exact main v l n ca cb w hv (by omega) (by omega) (by omega) (by omega) (by omega) (by omega)
theorem own : ownKnob Try.prog.godebug = none := by kernel_rfl

set_option maxRecDepth 100000 in
theorem lifted (os : Os) (started : os.Started) (H : Type) (enc : TypeId × Value → H) :
    ReturnsInHanded {} Try.checked os 6 .any (Rows.ringChainSpec.pre6 enc Try.prog Try.f6 Rows.ringChainRow.domain false) (Rows.ringChainSpec.post enc Try.prog Try.f6 false true false false) := by
  refine returnsInHanded_of_change (C := Try.checked) own started (by kernel_rfl) Try.func6
    (ChangeSpec.witness6 (enc := enc) (C := Try.checked) false ⟨#[], #[.slice none 0 0, .int .i64 0, .agg #[.int .i64 0, .int .i64 0]], []⟩ 8 (by kernel_rfl) (by kernel_rfl) (by kernel_rfl) (by kernel_rfl)) ?_
  intro W base args ds gs before hval0 hW hcnd _
  have hval : ∀ (j : Nat) t v, Try.f6.params[j]? = some t → args[j]? = some v → Value.okWide Try.prog W .any base t v := hval0
  have hW' := hW
  obtain ⟨p, q, hA0, hV, rfl, hfz, hnd⟩ := hW
  have hA : DataW.TrodAll enc Try.prog W 0 (fun _ => true) true Try.f6.params.toList args.toList ds p := hA0
  rw [Try.params6] at hA hval
  obtain ⟨v0, vs0, d0, ds0, p0, q0, hargs, rfl, rfl, h0, r0⟩ := trodAll_cons hA
  obtain ⟨v1, vs1, d1, ds1, p1, q1, rfl, rfl, rfl, h1, r1⟩ := trodAll_cons r0
  obtain ⟨v2, vs2, d2, ds2, p2, q2, rfl, rfl, rfl, h2, r2⟩ := trodAll_cons r1
  obtain ⟨rfl, rfl, rfl⟩ := trodAll_nil r2
  obtain rfl : args = #[v0, v1, v2] := by cases args; simp_all
  obtain ⟨rfl, rfl⟩ := trodVars_none hV
  obtain ⟨l, hl, _⟩ := open_rd_ints Try.underlying42 Try.underlying3 (by kernel_rfl) (hval 0 42 v0 rfl rfl) h0
  obtain ⟨a1, rfl, rfl, rfl, w1⟩ := open_int Try.underlying3 (hval 1 3 v1 rfl rfl) h1
  obtain ⟨x, y, rfl⟩ := open_pair Try.underlying53 Try.underlying3 (by kernel_rfl) (by kernel_rfl) (hval 2 53 v2 rfl rfl) h2
  refine (walk v0 l a1 x y W hl).mono fun e W' ⟨he, hb⟩ => ?_
  subst he
  exact ⟨_, rfl, law_post (T := 4) (by kernel_rfl) (by kernel_rfl) rfl Try.underlying4 rfl rfl hW' hb⟩

theorem over : Rows.ringChainRow.holds Try.pinned (OpenSpec.ofChange Rows.ringChainSpec) :=
  OpenClaim.holds_of_wide 6 Try.f6 rfl rfl rfl rfl rfl rfl rfl ⟨rfl, rfl, rfl, rfl, rfl⟩ rfl rfl rfl rfl rfl (by kernel_rfl) Try.func6 (by kernel_rfl)
    (of_decide_eq_true (by kernel_rfl)) (by unfold Func.isWrapper; first | (rw [if_pos (by decide +kernel)]; kernel_rfl) | (rw [if_neg (by decide +kernel)]; exact ⟨rfl, rfl⟩))
    (fun os started H enc _ => lifted os started H enc)

/-- The statement. -/
theorem proved : Rows.RingChainSaid :=
  over
end Go.Proofs.Ytolhlfahoooliaa.ringChain
