/- A device's calls, as functions of its state. A journal: may, New, Next. A journal in memory; Cover of all that was added. 'Ints': are two lists the same. The clock's row of keys: slices.Index, find (with its deferred closure). The clock's functions that recover: find, wasAsked (keys that can be compared: nothing panics). What every law's row asks behind the call, out of 'it returned true, and nothing that was there has turned'. The plain law of places: which block is at a slot. Maps from ints to ints, in memory, as functions. Sets of ints in memory (maps to struct{}), as functions. -/
import Derived.Test.YtnadilfobmgebaaGreatDoorH03
import Derived.Test.YtnadilfobmgebaaGreatDoorH01
import Derived.Defers
import Derived.Recover
import Derived.Deep.Slices
import Derived.Lib.SmallJoins
import Derived.Deep.Strs
import Derived.Maps.Views
import Derived.Maps.OwnSet
import Derived.MapKept
import Derived.Shelf.SlMaps.Clone
namespace Go.Proofs.YtnadilfobmgebaaGreatDoor
open Go Go.RowKit
structure DRes where
  F : List Bk
  O : List (Nat × Bk)
  P : List Int
  cd : Int
def Out (S : Nat → Prop) (w : World) (b : Nat) (r : DRes) (e : Ending) (w' : World) : Prop := e = .returned (.int .i64 r.cd) ∧ Dv S w' b r.F r.O r.P ∧ Upd S w w'
def flushR (F : List Bk) (O : List (Nat × Bk)) (P : List Int) : DRes :=
  if fate P = 1 then ⟨F, O, P.tail, 21⟩ else if fate P = 0 then ⟨flushF F O, [], P.tail, 0⟩ else ⟨F, O, P.tail, 0⟩
def writeR (F : List Bk) (O : List (Nat × Bk)) (P : List Int) (s : Nat) (y : Bk) : DRes :=
  if fate P = 1 then ⟨F, O, P.tail, 20⟩ else if fate P = 0 then ⟨F, O ++ [(s, y)], P.tail, 0⟩ else ⟨F, O, P.tail, 0⟩
theorem hasC_in {n s : Nat} (h : s < n) : hasC n (s : Int) = 0 := if_neg (by omega)
theorem dflushR {S : Nat → Prop} {w : World} {b : Nat} {F : List Bk} {O : List (Nat × Bk)} {P : List Int} (h : Dv S w b F O P) (hn : ∀ j, w.heap.size ≤ j → S j) :
    Calls Tryz.prog 72 #[.pointer (some ⟨b, 0, none⟩)] w (Out S w b (flushR F O P)) :=
  (dflush h hn).mono fun e w' h => by
    rcases h with ⟨h1, rfl, hd, hu⟩ | ⟨h1, rfl, hd, hu⟩ | ⟨h1, h2, rfl, hd, hu⟩
    · rw [flushR, if_pos h1]; exact ⟨rfl, hd, hu⟩
    · rw [flushR, if_neg (by omega), if_pos h1]; exact ⟨rfl, hd, hu⟩
    · rw [flushR, if_neg h2, if_neg h1]; exact ⟨rfl, hd, hu⟩
theorem dwriteR {S : Nat → Prop} {w : World} {b : Nat} {F : List Bk} {O : List (Nat × Bk)} {P : List Int} (h : Dv S w b F O P) (hn : ∀ j, w.heap.size ≤ j → S j) (s : Nat) (hs : s < F.length) (x : Bk) (hx : x.length = 64) (hO : O.length < 65536) :
    Calls Tryz.prog 17 #[.pointer (some ⟨b, 0, none⟩), .int .i64 (s : Int), .agg (bkC x).toArray] w (Out S w b (writeR F O P s x)) :=
  (dwrite h hn s x hx hO).mono fun e w' h => by
    have h0 := hasC_in hs
    rcases h with ⟨h1, -⟩ | ⟨-, h1, rfl, hd, hu⟩ | ⟨-, h1, rfl, hd, hu⟩ | ⟨-, h1, h2, rfl, hd, hu⟩
    · exact absurd h0 h1
    · rw [writeR, if_pos h1]; exact ⟨rfl, hd, hu⟩
    · rw [writeR, if_neg (by omega), if_pos h1]; rw [Int.toNat_natCast] at hd; exact ⟨rfl, hd, hu⟩
    · rw [writeR, if_neg h2, if_neg h1]; exact ⟨rfl, hd, hu⟩
def ReadOut (S : Nat → Prop) (w : World) (b : Nat) (F : List Bk) (O : List (Nat × Bk)) (P : List Int) (s : Nat) (e : Ending) (w' : World) : Prop :=
  ∃ (y : Bk) (cd : Int), e = .returned (.tuple #[.agg (bkC y).toArray, .int .i64 cd]) ∧ y = (if fate P = 1 then zB else curB F O s) ∧ cd = (if fate P = 1 then 19 else 0) ∧ y.length = 64 ∧ Dv S w' b F O P.tail ∧ Upd S w w'
theorem dreadR {S : Nat → Prop} {w : World} {b : Nat} {F : List Bk} {O : List (Nat × Bk)} {P : List Int} (h : Dv S w b F O P) (hn : ∀ j, w.heap.size ≤ j → S j) (s : Nat) (hs : s < F.length) :
    Calls Tryz.prog 49 #[.pointer (some ⟨b, 0, none⟩), .int .i64 (s : Int)] w (ReadOut S w b F O P s) :=
  (dread h hn s).mono fun e w' h' => by
    have h0 := hasC_in hs
    rcases h' with ⟨h1, -⟩ | ⟨-, h1, rfl, hd, hu⟩ | ⟨-, h1, rfl, hd, hu⟩
    · exact absurd h0 h1
    · exact ⟨zB, 19, rfl, (if_pos h1).symm, (if_pos h1).symm, zB_len, hd, hu⟩
    · exact ⟨curB F O s, 0, rfl, (if_neg h1).symm, (if_neg h1).symm, curB_len h.good s, hd, hu⟩
theorem Dv.but {S : Nat → Prop} {w : World} {b : Nat} {F : List Bk} {O : List (Nat × Bk)} {P : List Int} (h : Dv S w b F O P) {q : Nat} (hq : w.heap.size ≤ q) : Dv (fun j => S j ∧ j ≠ q) w b F O P :=
  h.shrink (fun j hj hl => ⟨hj, by omega⟩)
def JrAt (w : World) (j : Nat) (d : Nat) (base n seq next : Int) : Prop :=
  w.cell? ⟨j, 0, none⟩ = some (.pointer (some ⟨d, 0, none⟩)) ∧ w.cell? ⟨j, 1, none⟩ = some (.int .i64 base) ∧ w.cell? ⟨j, 2, none⟩ = some (.int .i64 n) ∧
    w.cell? ⟨j, 3, none⟩ = some (.int .i64 seq) ∧ w.cell? ⟨j, 4, none⟩ = some (.int .i64 next)
theorem jnext (w : World) (j d : Nat) (base n seq next : Int) (h : JrAt w j d base n seq next) :
    Calls Tryz.prog 157 #[.pointer (some ⟨j, 0, none⟩)] w fun e w' => e = .returned (.int .i64 next) ∧ w = w' := by
  obtain ⟨h0, h1, h2, h3, h4⟩ := h
  go_enter Tryz.func157, Tryz.ntmps157
  go_wp2
  go_ret
  exact ⟨rfl, rfl⟩
theorem jmay_ok {S : Nat → Prop} {w : World} {b : Nat} {F : List Bk} {O : List (Nat × Bk)} {P : List Int} (h : Dv S w b F O P) (base n : Nat) (h1 : 1 ≤ n) (h2 : n ≤ 1024) (h3 : base + n ≤ F.length) (h4 : F.length ≤ 4096) :
    Calls Tryz.prog 188 #[.pointer (some ⟨b, 0, none⟩), .int .i64 (base : Int), .int .i64 (n : Int)] w fun e w' => e = .returned (.int .i64 0) ∧ w = w' := by
  have q1 : decide ((base : Int) < 0) = false := by simp
  have q2 : decide ((n : Int) < 1) = false := by simp; omega
  have q3 : decide ((n : Int) > 1024) = false := by simp; omega
  have q3' : decide (1024 < (n : Int)) = false := by simp; omega
  have q4 : decide ((base : Int) > F.length - n) = false := by simp; omega
  have q4' : decide ((F.length : Int) - n < (base : Int)) = false := by simp; omega
  go_enter Tryz.func188, Tryz.ntmps188
  go_wp2_with (first
    | (go_at_call 27; refine (dsize h).mono ?_; rintro e w' ⟨rfl, rfl⟩)
    | fail)
  go_ret
  exact ⟨rfl, rfl⟩
structure JnGood (base n cov next : Nat) (W : List (Nat × Bk)) : Prop where
  w64 : ∀ p ∈ W, p.2.length = 64
  lt : ∀ p ∈ W, p.1 < next
  n1 : 1 ≤ n ∧ n ≤ 1024
  wl : W.length + cov + 1 ≤ next
  room : next ≤ cov + n + 1
  mx : next ≤ 1099511627777
  bs : base ≤ 4096
structure JnAt (w : World) (j : Nat) (vw : Value) (d base n cov next : Nat) (W : List (Nat × Bk)) : Prop where
  str : w.heap[j]? = some (.cells #[.pointer (some ⟨d, 0, none⟩), .int .i64 base, .int .i64 n, .int .i64 cov, .int .i64 next, vw] 276 (0, 0))
  ws : Sl w 279 65 vw W.length (opC W)
  wb : vw.ownBlock ≠ some j
  good : JnGood base n cov next W
def jnS (j : Nat) (vw : Value) : Nat → Prop := fun k => k = j ∨ vw.ownBlock = some k
section
variable {w w' : World} {j d base n cov next : Nat} {vw : Value} {W : List (Nat × Bk)}
theorem JnAt.keep (h : JnAt w j vw d base n cov next W) {S : Nat → Prop} (hu : Upd S w w') (hs : ∀ k, jnS j vw k → ¬ S k) : JnAt w' j vw d base n cov next W :=
  { h with
    str := (hu.block _ (lt_of_block h.str) (hs j (.inl rfl))).trans h.str
    ws := h.ws.keep hu (fun g hg => hs g (.inr hg)) }
theorem JnAt.new (h : JnAt w j vw d base n cov next W) (hu : Upd (fun _ => False) w w') : JnAt w' j vw d base n cov next W := h.keep hu (fun _ _ h => h)
theorem JnAt.slt (h : JnAt w j vw d base n cov next W) : ∀ k, jnS j vw k → k < w.heap.size := by
  rintro k (rfl | hk)
  · exact lt_of_block h.str
  · exact h.ws.lt hk
theorem JnAt.c (h : JnAt w j vw d base n cov next W) : w.cell? ⟨j, 0, none⟩ = some (.pointer (some ⟨d, 0, none⟩)) ∧ w.cell? ⟨j, 1, none⟩ = some (.int .i64 base) ∧ w.cell? ⟨j, 2, none⟩ = some (.int .i64 n) ∧
    w.cell? ⟨j, 3, none⟩ = some (.int .i64 cov) ∧ w.cell? ⟨j, 4, none⟩ = some (.int .i64 next) ∧ w.cell? ⟨j, 5, none⟩ = some vw := by
  refine ⟨?_, ?_, ?_, ?_, ?_, ?_⟩ <;> rw [cell_of_block h.str] <;> rfl
theorem JnAt.fz (h : JnAt w j vw d base n cov next W) (i : Nat) : w.frozen? ⟨j, i, none⟩ = false := frozen_of_block h.str i
structure WtAt (w : World) (vw : Value) (next : Nat) (W : List (Nat × Bk)) : Prop where
  ws : Sl w 279 65 vw W.length (opC W)
  w64 : ∀ p ∈ W, p.2.length = 64
  lt : ∀ p ∈ W, p.1 < next
  wl : W.length + 1 ≤ next
  mx : next ≤ 1099511627777
theorem JnAt.wt (h : JnAt w j vw d base n cov next W) : WtAt w vw next W := ⟨h.ws, h.good.w64, h.good.lt, by have := h.good.wl; omega, h.good.mx⟩
theorem WtAt.keep (h : WtAt w vw next W) {S : Nat → Prop} (hu : Upd S w w') (hs : ∀ k, vw.ownBlock = some k → ¬ S k) : WtAt w' vw next W := { h with ws := h.ws.keep hu hs }
theorem WtAt.new (h : WtAt w vw next W) (hu : Upd (fun _ => False) w w') : WtAt w' vw next W := h.keep hu (fun _ _ h => h)
theorem WtAt.range (h : WtAt w vw next W) {k : Nat} (hk : k < W.length) : ∃ g off cap, vw = .slice (some ⟨g, off, none⟩) W.length cap ∧ g < w.heap.size ∧ W.length ≤ cap ∧ w.rangeAt g (off + k * 65) (wrC W[k].1 W[k].2) := by
  obtain ⟨hl, ⟨_, h0⟩ | ⟨g, off, cap, cur, rfl, hg, hn, hm, hs, hc⟩⟩ := h.ws
  · omega
  · refine ⟨g, off, cap, rfl, lt_of_block hg, hn, fun j v hj => ?_⟩
    have hj' := (List.getElem?_eq_some_iff.1 hj).1
    rw [wrC_len, h.w64 _ (List.getElem_mem hk)] at hj'
    rw [cell_of_block hg, Nat.add_assoc]
    exact hc _ _ (by rw [opC_at h.w64 hk hj']; exact hj)
theorem JnAt.range (h : JnAt w j vw d base n cov next W) {k : Nat} (hk : k < W.length) : ∃ g off cap, vw = .slice (some ⟨g, off, none⟩) W.length cap ∧ g < w.heap.size ∧ W.length ≤ cap ∧ w.rangeAt g (off + k * 65) (wrC W[k].1 W[k].2) := h.wt.range hk
end
def Jn (S : Nat → Prop) (w : World) (j d base n cov next : Nat) (W : List (Nat × Bk)) : Prop := ∃ vw, JnAt w j vw d base n cov next W ∧ ∀ k, jnS j vw k → S k
theorem Jn.thing (j d base n cov next : Nat) (W : List (Nat × Bk)) : Thing (fun S w => Jn S w j d base n cov next W) where
  keep := fun h hu hs => by
    obtain ⟨v, h, hS⟩ := h
    exact ⟨v, h.keep hu (fun j hj => hs j (hS j hj)), hS⟩
  out := fun h hs => by
    obtain ⟨v, h, hS⟩ := h
    exact ⟨v, h, fun j hj => hs j (h.slt j hj) (hS j hj)⟩
theorem Jn.good {S : Nat → Prop} {w : World} {j d base n cov next : Nat} {W : List (Nat × Bk)} (h : Jn S w j d base n cov next W) : JnGood base n cov next W := by obtain ⟨v, h, -⟩ := h; exact h.good
theorem jnext_any {S : Nat → Prop} {w : World} {j d base n cov next : Nat} {W : List (Nat × Bk)} (h : Jn S w j d base n cov next W) :
    Calls Tryz.prog 157 #[.pointer (some ⟨j, 0, none⟩)] w fun e w' => e = .returned (.int .i64 (next : Int)) ∧ w = w' := by
  obtain ⟨v, h, -⟩ := h
  obtain ⟨c0, c1, c2, c3, c4, c5⟩ := h.c
  exact jnext w j d base n cov next ⟨c0, c1, c2, c3, c4⟩
theorem jnew_any {S : Nat → Prop} {T : Nat → Prop} {w : World} {b : Nat} {F : List Bk} {O : List (Nat × Bk)} {P : List Int} (h : Dv T w b F O P) (hn : ∀ j, w.heap.size ≤ j → S j) (base n seq : Nat) (h1 : 1 ≤ n) (h2 : n ≤ 1024) (h3 : base + n ≤ F.length) (h5 : seq < 1099511627776) :
    Calls Tryz.prog 150 #[.pointer (some ⟨b, 0, none⟩), .int .i64 (base : Int), .int .i64 (n : Int), .int .i64 (seq : Int)] w fun e w' => ∃ j, e = .returned (.tuple #[.pointer (some ⟨j, 0, none⟩), .int .i64 0]) ∧
      Jn S w' j b base n seq (seq + 1) [] ∧ w.heap.size ≤ j ∧ Below w.heap.size w w' := by
  have h4 := h.good.fl
  have q1 : decide ((seq : Int) < 0) = false := by simp
  have q2 : decide ((seq : Int) ≥ 1099511627776) = false := by simp; omega
  have hs : ¬ (1099511627776 ≤ (seq : Int)) := by omega
  go_enter Tryz.func150, Tryz.ntmps150
  go_wp2_with (first
    | (go_at_call 188; refine (jmay_ok h base n h1 h2 h3 h4).mono ?_; rintro e w' ⟨rfl, rfl⟩)
    | fail)
  go_ret2
  have hb := heap_alloc_last w (.cells #[.pointer (some ⟨b, 0, none⟩), .int .i64 (base : Int), .int .i64 (n : Int), .int .i64 (seq : Int), .int .i64 ((seq : Int) + 1), .slice none 0 0] 276) rfl
  refine ⟨w.heap.size, rfl, ⟨.slice none 0 0, ⟨?_, Sl.nil _ _ _, by simp [Value.ownBlock], ⟨by simp, by simp, ⟨h1, h2⟩, by simp, by omega, by omega, by omega⟩⟩, ?_⟩, Nat.le_refl _, (Below.refl _ w).alloc (Nat.le_refl _) _⟩
  · rw [hb]
    simp
  · rintro k (rfl | hk)
    · exact hn _ (Nat.le_refl _)
    · cases hk
theorem infoWt : (Tryz.prog.info? 279).map (·.size) = some 65 := by kernel_rfl
theorem sizeWt (s : Int) (x : Bk) (hx : x.length = 64) : (Tryz.prog.info? 279).map (·.size) = some (wrC s x).length := by
  rw [infoWt, wrC_len, hx]
theorem zero_wt : Tryz.zeroCells279.size = 65 := by kernel_rfl
set_option maxRecDepth 100000 in
theorem jcov1 (w : World) (q : Nat) (s : Int) (hq : w.cell? ⟨q, 0, none⟩ = some (.int .i64 s)) (x : Nat) (y : Bk) (hx : (x : Int) ≤ s) :
    Calls Tryz.prog 199 #[.agg (wrC (x : Int) y).toArray, .pointer (some ⟨q, 0, none⟩)] w fun e w' => e = .returned (.bool true) ∧ Below w.heap.size w w' := by
  have hqb : q < w.heap.size := (addr_of_cell hq).2
  obtain ⟨L, hL⟩ : ∃ L, L = (wrC (x : Int) y).toArray := ⟨_, rfl⟩
  have h0 : L[0]? = some (.int .i64 (x : Int)) := by rw [hL]; rfl
  have q1 : decide ((x : Int) ≤ s) = true := by simpa using hx
  have hq1 : (w.alloc (.cells L 279)).cell? ⟨q, 0, none⟩ = some (.int .i64 s) := cell_keep_alloc hq _
  have hc : (w.alloc (.cells L 279)).cell? ⟨w.heap.size, 0, none⟩ = some (.int .i64 (x : Int)) := (cell_of_block (heap_alloc_last w _ rfl) 0).trans h0
  rw [← hL]
  clear hL hq
  go_enter Tryz.func199, Tryz.ntmps199
  go_wp2
  go_ret
  exact ⟨rfl, (Below.refl _ _).alloc (Nat.le_refl _) _⟩
def idxI (l : List Int) (k : Int) : Int := match l.findIdx? (· == k) with | some i => (i : Int) | none => -1
theorem idxI_hit {l : List Int} {k : Int} {i : Nat} (hi : i < l.length) (he : l[i] = k) (hb : ∀ j (h : j < l.length), j < i → l[j] ≠ k) : idxI l k = i := by
  unfold idxI
  have : l.findIdx? (· == k) = some i := by
    rw [List.findIdx?_eq_some_iff_getElem]
    exact ⟨hi, by simpa using he, fun j hj => by simpa using hb j (by omega) hj⟩
  rw [this]
theorem idxI_none {l : List Int} {k : Int} (hb : ∀ j (h : j < l.length), l[j] ≠ k) : idxI l k = -1 := by
  unfold idxI
  have : l.findIdx? (· == k) = none := by
    rw [List.findIdx?_eq_none_iff]
    intro x hx
    obtain ⟨j, hj, rfl⟩ := List.getElem_of_mem hx
    simpa using hb j hj
  rw [this]
theorem sindex_any {w : World} {v : Value} {l : List Int} (h : Rd w 1 v l.length (ints l)) (hle : l.length ≤ 4096) (k : Int) :
    Calls Tryz.prog 241 #[v, .int .i64 k] w fun e w' => e = .returned (.int .i64 (idxI l k)) ∧ w' = w := by
  have H := Lib.hid h
  obtain ⟨ao, c, rfl⟩ := h.nil_iff
  clear h
  go_enter Tryz.func241, Tryz.ntmps241
  go_wp2
  go_loopg [8] l.length (fun g i wr => ∃ j : Nat, j + g = l.length ∧ i = .int .i64 j ∧ (∀ m (h : m < l.length), m < j → l[m] ≠ k) ∧ wr = w)
  case atStart => exact ⟨0, by omega, rfl, fun m h hm => by omega, rfl⟩
  case round =>
    obtain ⟨j, hj, rfl, hno, rfl⟩ := hrel
    by_cases hlt : j < l.length
    · obtain ⟨g, off, c', hv, hg, hc⟩ := H.out.at (by omega)
      cases hv
      have hcj := hc j _ (get_ints hlt)
      have HN := Lib.hid hno
      clear hc hno
      by_cases he : l[j] = k
      · have hb : (k == l[j]) = true := by simp [he]
        have ha : Hid (idxI l k = j) := idxI_hit hlt he HN.out
        clear he
        go_wp2
        go_ret
        exact ⟨by rw [ha.out]; rfl, rfl⟩
      · have hb : (k == l[j]) = false := by simp; exact fun e => he e.symm
        have hne : Hid (l[j] ≠ k) := he
        clear he
        go_wp2
        go_roundg (gk - 1)
        case measure => omega
        case rel => exact ⟨j + 1, by omega, by go_num, fun m hm hmj => by
          by_cases e : m = j
          · subst e; exact hne.out
          · exact HN.out m hm (by omega), rfl⟩
    · obtain rfl : j = l.length := by omega
      have ha : Hid (idxI l k = -1) := idxI_none (fun m hm => hno m hm hm)
      clear hno
      go_wp2
      go_ret
      exact ⟨by rw [ha.out]; rfl, rfl⟩
theorem find_idle (p : Value) (w : World) :
    CallsD Tryz.prog 240 #[p] .returning w fun e u' w' => e = .returned (.tuple #[]) ∧ u' = .returning ∧ w' = w := by
  refine callsD_of_wpS Tryz.func240 rfl fun c₀ cs hu => ?_
  apply wpS_seq
  apply wpS_region
  simp [wpOpsS, go_sem, recoverD, hu, Tryz.ntmps240, Exit.thenS]
  refine wpS_cond (t := false) (by simp [Act.eval, Array.replicate]) ?_
  simp only [Bool.false_eq_true, if_false]
  refine wpS_of_wp (wp_skip ?_)
  cases c₀
  simp_all [bodyPostS, results, Tryz.results240]
theorem wasAsked_idle (p : Value) (w : World) :
    CallsD Tryz.prog 263 #[p] .returning w fun e u' w' => e = .returned (.tuple #[]) ∧ u' = .returning ∧ w' = w := by
  refine callsD_of_wpS Tryz.func263 rfl fun c₀ cs hu => ?_
  apply wpS_seq
  apply wpS_region
  simp [wpOpsS, go_sem, recoverD, hu, Tryz.ntmps263, Exit.thenS]
  refine wpS_cond (t := false) (by simp [Act.eval, Array.replicate]) ?_
  simp only [Bool.false_eq_true, if_false]
  refine wpS_of_wp (wp_skip ?_)
  cases c₀
  simp_all [bodyPostS, results, Tryz.results263]
theorem evict_idle (p : Value) (w : World) :
    CallsD Tryz.prog 251 #[p] .returning w fun e u' w' => e = .returned (.tuple #[]) ∧ u' = .returning ∧ w' = w := by
  refine callsD_of_wpS Tryz.func251 rfl fun c₀ cs hu => ?_
  apply wpS_seq
  apply wpS_region
  simp [wpOpsS, go_sem, recoverD, hu, Tryz.ntmps251, Exit.thenS]
  refine wpS_cond (t := false) (by simp [Act.eval, Array.replicate]) ?_
  simp only [Bool.false_eq_true, if_false]
  refine wpS_of_wp (wp_skip ?_)
  cases c₀
  simp_all [bodyPostS, results, Tryz.results251]
set_option maxRecDepth 100000 in
theorem find_any {w : World} {v : Value} {l : List Int} (h : Rd w 1 v l.length (ints l)) (hle : l.length ≤ 4096) (k : Int) :
    Calls Tryz.prog 224 #[v, .int .i64 k] w fun e w' => e = .returned (.int .i64 (idxI l k)) ∧ Below w.heap.size w w' := by
  have hmf : ∀ (fn : Fn) (first cap : Array Value) (w : World), (Instr.makeFunc fn first cap).run Tryz.prog w = .ok (.func fn first cap) w := fun _ _ _ _ => rfl
  have HF := Lib.hid (fun (w1 : World) (h1 : Rd w1 1 v l.length (ints l)) => sindex_any h1 hle k)
  have H := Lib.hid h
  clear h
  go_enter_defers Tryz.func224, Tryz.ntmps224
  go_wp2_with fail
  refine (HF.out _ (H.out.keep ((Upd.refl (fun _ => False) w).alloc _) (fun _ _ h => h))).mono ?_
  rintro e w1 ⟨rfl, rfl⟩
  go_wp2
  refine leaves_cons (f := 240) (args := #[.pointer (some ⟨w.heap.size, 0, none⟩)]) (by simp) (by simp [go_sem]) ?_
  refine (find_idle _ _).mono ?_
  rintro e u' w'' ⟨rfl, rfl, rfl⟩
  simp [Leaves, settle, results, Tryz.results224, go_sem]
  exact (Below.refl _ _).alloc (Nat.le_refl _) _
end Go.Proofs.YtnadilfobmgebaaGreatDoor
namespace Go.Proofs.YtnadilfobmgebaaGreatDoor
open Go Go.RowKit Go.ChangeShapes Go.WideShapes Go.ChangeAt
section
variable {H : Type} {enc : TypeId × Value → H} {P : Program}
theorem trodAll_stays (hl : laidOutB P = true) {W W' : World} (hb : Below W.heap.size W W') : ∀ (ts : List TypeId) (vs : List Value) (ds : List (DataW H)) (ps : List MemPlace),
    (∀ t ∈ ts, P.readableRec t = true ∧ t < P.types.size) → DataW.TrodAll enc P W 0 (fun _ => true) true ts vs ds ps → (∀ x ∈ ps, x.block < W.heap.size) →
    DataW.TrodAll enc P W' 0 (fun b => decide (b < W.heap.size)) true ts vs ds ps := by
  intro ts
  induction ts with
  | nil =>
    intro vs ds ps _ h _
    cases vs <;> cases ds <;> simp [DataW.TrodAll] at h ⊢
    exact h
  | cons t ts ih =>
    intro vs ds ps ht h hlt
    cases vs <;> cases ds <;> simp only [DataW.TrodAll] at h ⊢
    obtain ⟨p, q, h1, h2, rfl⟩ := h
    obtain ⟨hr, hs⟩ := ht t (by simp)
    exact ⟨p, q, Below.trod hl hr hs h1 hb (fun x hx => hlt x (by simp [hx])), ih _ _ _ (fun t' ht' => ht t' (by simp [ht'])) h2 (fun x hx => hlt x (by simp [hx])), rfl⟩
theorem law_post {f : Func} {s : ChangeSpec} {W W' : World} {args : Array Value} {ds gs : List (DataW H)} {before : List MemPlace} {T : TypeId}
    (hl : laidOutB P = true) (hts : f.params.toList.all (fun t => P.readableRec t && decide (t < P.types.size)) = true)
    (hres : f.resultTypes = #[T]) (hbool : P.underlying T = some .bool) (hvars : s.vars = [])
    (hfn : s.fn H (ds ++ gs) = { results := [.lit (.bool true)], args := ds })
    (hW : DataW.Whole enc P f.params.toList s.vars false W args.toList ds gs before) (hb : Below W.heap.size W W') :
    s.post enc P f false true false false W args (.bool true) W' := by
  have hlt : ∀ x ∈ before, x.block < W.heap.size := fun x hx => by simpa using hW.lt x hx
  have hW' := hW
  obtain ⟨p, q, hA, hV, rfl, hz, hn⟩ := hW
  rw [hvars] at hV
  refine ⟨ds, gs, p ++ q, [], p, [], hW', ?_, ?_, ?_, hb.frame _, fun h => by cases h⟩
  · rw [hres, hfn]
    exact trodAll_cons_mk (shut_bool hbool true) trodAll_mk0
  · rw [hfn]
    exact trodAll_stays hl hb _ _ _ _ (fun t ht => by have := List.all_eq_true.1 hts t ht; simpa using this) hA (fun x hx => hlt x (by simp [hx]))
  · rw [hvars, hfn]; rfl
theorem flat_at {α : Type} {f : α → List Value} {k : Nat} (hf : ∀ a, (f a).length = k) : ∀ (l : List α) (i j : Nat), j < k → ∀ a, l[i]? = some a → (l.flatMap f)[i * k + j]? = (f a)[j]? := by
  intro l
  induction l with
  | nil => intro i j _ a h; simp at h
  | cons b l ih =>
    intro i j hj a h
    cases i with
    | zero => simp at h; subst h; rw [List.flatMap_cons, Nat.zero_mul, Nat.zero_add, List.getElem?_append_left (by rw [hf]; exact hj)]
    | succ i =>
      simp at h
      have e : (i + 1) * k + j - (f b).length = i * k + j := by rw [hf, Nat.add_mul]; omega
      rw [List.flatMap_cons, List.getElem?_append_right (by rw [hf, Nat.add_mul]; omega), e]
      exact ih i j hj a h
theorem length_flat {α : Type} {f : α → List Value} {k : Nat} (hf : ∀ a, (f a).length = k) (l : List α) : (l.flatMap f).length = l.length * k := by
  induction l with
  | nil => simp
  | cons b l ih => rw [List.flatMap_cons, List.length_append, ih, hf, List.length_cons, Nat.add_mul]; omega
theorem open_rd {α : Type} [Inhabited α] (f : α → List Value) (φ : α → Prop) {k : Nat} (hf : ∀ a, (f a).length = k) (hk : 0 < k) {W : World} {base : Nat} {t e : TypeId} {v : Value} {d : DataW H} {p : List MemPlace} (ht : P.underlying t = some (.slice e)) (hc : P.cellsOf e = k)
    (hel : ∀ (n : Nat) (cs : List Value) (x : DataW H × List MemPlace), DataW.trod enc P W 0 (fun _ => true) true n e cs = some x → ∃ a, cs = f a ∧ φ a)
    (hok : Value.okWide P W .any base t v) (h : DataW.Trod enc P W 0 (fun _ => true) true t v d p) :
    ∃ l : List α, Rd W k v l.length (l.flatMap f) ∧ ∀ a ∈ l, φ a := by
  obtain ⟨a0, len0, cap0, rfl⟩ := okWide_slice ht hok
  obtain ⟨fuel, hfu⟩ := h
  rcases Deep.open_slice ht hfu with ⟨hcs, hx⟩ | ⟨a, len, cap, m, n, D, Pl, hcs, _, hl, hm, hmm, hx, hcell⟩
  · simp only [Value.cells, List.cons.injEq, Value.slice.injEq, and_true] at hcs
    obtain ⟨rfl, rfl, rfl⟩ := hcs
    exact ⟨[], ⟨by simp, by simp [maxLen], none, 0, rfl, fun _ => rfl, fun b hb => by cases hb⟩, by simp⟩
  · simp only [Value.cells, List.cons.injEq, Value.slice.injEq, and_true] at hcs
    obtain ⟨rfl, rfl, rfl⟩ := hcs
    have hmc : m = cap0 := by simpa using hmm
    have hex : ∀ i, ∃ x : α, i < len0 → W.cells? 0 (a.add (i * k)) k = some (f x) ∧ φ x := by
      intro i
      by_cases hi : i < len0
      · obtain ⟨cs', h1, h2⟩ := hcell i (by omega)
        obtain ⟨x, rfl, hφ⟩ := hel _ _ _ h2
        rw [hc] at h1
        exact ⟨x, fun _ => ⟨h1, hφ⟩⟩
      · exact ⟨default, fun h => absurd h hi⟩
    have hch : ∃ g : Nat → α, ∀ i, i < len0 → W.cells? 0 (a.add (i * k)) k = some (f (g i)) ∧ φ (g i) := ⟨fun i => Classical.choose (hex i), fun i => Classical.choose_spec (hex i)⟩
    obtain ⟨g, hg⟩ := hch
    refine ⟨(List.range len0).map g, ⟨length_flat hf _, by simp; omega, some a, cap0, by simp, (fun h => by cases h), fun b hb j u hj => ?_⟩, ?_⟩
    · cases hb
      have hjl := (List.getElem?_eq_some_iff.1 hj).1
      rw [length_flat hf, List.length_map, List.length_range] at hjl
      have hi : j / k < len0 := (Nat.div_lt_iff_lt_mul hk).2 hjl
      have hjk : j % k < k := Nat.mod_lt _ hk
      have he : j / k * k + j % k = j := by rw [Nat.mul_comm]; exact Nat.div_add_mod j k
      rw [← he] at hj
      rw [flat_at hf _ (j / k) (j % k) hjk (g (j / k)) (by simp [hi])] at hj
      obtain ⟨_, _, h3⟩ := World.cells?_some (hg _ hi).1
      have h4 := h3 (j % k) hjk
      rw [hj] at h4
      have e2 : (a.add (j / k * k)).add (j % k) = a.add j := by
        have : ∀ (x y : Nat), (a.add x).add y = a.add (x + y) := by
          intro x y; unfold Addr.add; by_cases h1 : x = 0 <;> by_cases h2 : y = 0 <;> simp [h1, h2, Nat.add_assoc]
        rw [this, he]
      rw [← e2]; exact h4
    · intro x hx
      obtain ⟨i, hi, rfl⟩ := List.mem_map.1 hx
      exact (hg i (by simpa using hi)).2
end
end Go.Proofs.YtnadilfobmgebaaGreatDoor
namespace Go.Proofs.YtnadilfobmgebaaGreatDoor
def upd1 (f : Int → Option Nat) (s : Int) (o : Option Nat) : Int → Option Nat := fun x => if x = s then o else f x
def atOf (ps : List (Int × Bool)) (s : Int) : Option Nat := if s < 0 then none else ps.findIdx? (fun p => p.1 == s)
structure Good (ps : List (Int × Bool)) (slots : Nat) : Prop where
  each : ∀ k (h : k < ps.length), ps[k] = (-1, false) ∨ (0 ≤ ps[k].1 ∧ ps[k].1 < slots)
  inj : ∀ i j (hi : i < ps.length) (hj : j < ps.length), 0 ≤ ps[i].1 → ps[i].1 = ps[j].1 → i = j
theorem atOf_some {ps : List (Int × Bool)} {s : Int} {k : Nat} (h : atOf ps s = some k) : 0 ≤ s ∧ ∃ h : k < ps.length, ps[k].1 = s := by
  unfold atOf at h
  split at h
  · cases h
  · rw [List.findIdx?_eq_some_iff_getElem] at h
    obtain ⟨hk, h1, _⟩ := h
    exact ⟨by omega, hk, by simpa using h1⟩
theorem atOf_none {ps : List (Int × Bool)} {s : Int} (h : atOf ps s = none) (hs : 0 ≤ s) {k : Nat} (hk : k < ps.length) : ps[k].1 ≠ s := by
  unfold atOf at h
  rw [if_neg (by omega), List.findIdx?_eq_none_iff] at h
  have := h ps[k] (List.getElem_mem hk)
  simpa using this
theorem Good.at {ps : List (Int × Bool)} {slots : Nat} (h : Good ps slots) {k : Nat} (hk : k < ps.length) (h0 : 0 ≤ ps[k].1) : atOf ps ps[k].1 = some k := by
  cases ha : atOf ps ps[k].1 with
  | none => exact absurd rfl (atOf_none ha h0 hk)
  | some j =>
    obtain ⟨_, hj, he⟩ := atOf_some ha
    rw [h.inj k j hk hj h0 he.symm]
theorem Good.iff {ps : List (Int × Bool)} {slots : Nat} (h : Good ps slots) {s : Int} {k : Nat} : atOf ps s = some k ↔ 0 ≤ s ∧ ∃ h : k < ps.length, ps[k].1 = s :=
  ⟨atOf_some, fun ⟨h0, hk, he⟩ => by subst he; exact h.at hk h0⟩
theorem opt_ext {α : Type} {o p : Option α} (h : ∀ a, o = some a ↔ p = some a) : o = p := by
  cases o with
  | none => cases p with
    | none => rfl
    | some b => exact absurd ((h b).2 rfl) (by simp)
  | some a => exact ((h a).1 rfl).symm
theorem Good.start (n slots : Nat) : Good (List.replicate n (-1, false)) slots :=
  ⟨fun k h => .inl (by simp), fun i j hi hj h0 _ => by simp at h0⟩
theorem atOf_start (n : Nat) : atOf (List.replicate n (-1, false)) = fun _ => none := by
  funext s
  cases h : atOf (List.replicate n (-1, false)) s with
  | none => rfl
  | some k =>
    obtain ⟨h0, hk, he⟩ := atOf_some h
    simp at he
    omega
section
variable {ps : List (Int × Bool)} {slots k : Nat}
theorem Good.drop (h : Good ps slots) (k : Nat) : Good (ps.set k (-1, false)) slots := by
  refine ⟨fun i hi => ?_, fun i j hi hj h0 he => ?_⟩
  · rw [List.getElem_set]
    split
    · exact .inl rfl
    · exact h.each i (by simpa using hi)
  · rw [List.getElem_set] at h0 he
    rw [List.getElem_set] at he
    by_cases h1 : k = i
    · simp [h1] at h0
    · by_cases h2 : k = j
      · rw [if_neg h1, if_pos h2] at he
        rw [if_neg h1] at h0
        simp at he
        omega
      · rw [if_neg h1, if_neg h2] at he
        rw [if_neg h1] at h0
        exact h.inj i j (by simpa using hi) (by simpa using hj) h0 he
theorem Good.atOf_drop (h : Good ps slots) (hk : k < ps.length) : atOf (ps.set k (-1, false)) = upd1 (atOf ps) ps[k].1 none := by
  funext s
  refine opt_ext fun a => ?_
  rw [(h.drop k).iff]
  unfold upd1
  constructor
  · rintro ⟨h0, ha, he⟩
    rw [List.getElem_set] at he
    split at he
    · simp at he; omega
    · rename_i hne
      have ha' : a < ps.length := by simpa using ha
      subst he
      split
      · rename_i e
        exact absurd (h.inj a k ha' hk h0 e) (fun e => hne e.symm)
      · exact h.at ha' h0
  · intro e
    split at e
    · cases e
    · rename_i hne
      obtain ⟨h0, ha, he⟩ := atOf_some e
      refine ⟨h0, by simpa using ha, ?_⟩
      rw [List.getElem_set]
      split
      · rename_i e2
        subst e2
        exact absurd he.symm hne
      · exact he
def mayPut (ps : List (Int × Bool)) (k : Nat) (s : Int) : Prop := atOf ps s = none ∨ atOf ps s = some k
theorem mayPut_ne (h : Good ps slots) {s : Int} (hm : mayPut ps k s) (h0 : 0 ≤ s) {i : Nat} (hi : i < ps.length) (hne : i ≠ k) : ps[i].1 ≠ s := by
  rcases hm with hm | hm
  · exact atOf_none hm h0 hi
  · intro e
    subst e
    have := h.at hi h0
    rw [this] at hm
    exact hne (by injection hm)
theorem Good.put (h : Good ps slots) (_ : k < ps.length) {s : Int} (d : Bool) (h0 : 0 ≤ s) (h1 : s < slots) (hm : mayPut ps k s) : Good (ps.set k (s, d)) slots := by
  refine ⟨fun i hi => ?_, fun i j hi hj h2 he => ?_⟩
  · rw [List.getElem_set]
    split
    · exact .inr ⟨h0, h1⟩
    · exact h.each i (by simpa using hi)
  · have hi' : i < ps.length := by simpa using hi
    have hj' : j < ps.length := by simpa using hj
    rw [List.getElem_set] at h2 he
    rw [List.getElem_set] at he
    by_cases e1 : k = i
    · by_cases e2 : k = j
      · exact e1.symm.trans e2
      · rw [if_pos e1, if_neg e2] at he
        exact absurd he.symm (mayPut_ne h hm h0 hj' (fun e => e2 e.symm))
    · by_cases e2 : k = j
      · rw [if_neg e1, if_pos e2] at he
        exact absurd he (mayPut_ne h hm h0 hi' (fun e => e1 e.symm))
      · rw [if_neg e1, if_neg e2] at he
        rw [if_neg e1] at h2
        exact h.inj i j hi' hj' h2 he
theorem Good.atOf_put (h : Good ps slots) (hk : k < ps.length) {s : Int} (d : Bool) (h0 : 0 ≤ s) (h1 : s < slots) (hm : mayPut ps k s) : atOf (ps.set k (s, d)) = upd1 (upd1 (atOf ps) ps[k].1 none) s (some k) := by
  funext x
  refine opt_ext fun a => ?_
  rw [(h.put hk d h0 h1 hm).iff]
  simp only [upd1]
  constructor
  · rintro ⟨hx, ha, he⟩
    have ha' : a < ps.length := by simpa using ha
    rw [List.getElem_set] at he
    by_cases e : k = a
    · rw [if_pos e] at he
      simp at he
      rw [if_pos he.symm, e]
    · rw [if_neg e] at he
      subst he
      rw [if_neg (mayPut_ne h hm h0 ha' (fun e' => e e'.symm))]
      split
      · rename_i e3
        exact absurd (h.inj a k ha' hk hx e3) (fun e' => e e'.symm)
      · exact h.at ha' hx
  · intro e
    by_cases hxs : x = s
    · rw [if_pos hxs] at e
      cases e
      refine ⟨by omega, by simpa using hk, ?_⟩
      rw [List.getElem_set, if_pos rfl]
      exact hxs.symm
    · rw [if_neg hxs] at e
      split at e
      · cases e
      · rename_i hne
        obtain ⟨hx, ha, he⟩ := atOf_some e
        refine ⟨hx, by simpa using ha, ?_⟩
        rw [List.getElem_set]
        split
        · rename_i e2
          subst e2
          exact absurd he.symm hne
        · exact he
theorem Good.clean (h : Good ps slots) (hk : k < ps.length) (h0 : 0 ≤ ps[k].1) : Good (ps.set k (ps[k].1, false)) slots := by
  refine ⟨fun i hi => ?_, fun i j hi hj h2 he => ?_⟩
  · rw [List.getElem_set]
    split
    · rcases h.each k hk with e | e
      · rw [e] at h0; simp at h0
      · exact .inr e
    · exact h.each i (by simpa using hi)
  · have e1 : ∀ (x : Nat) (hx : x < (ps.set k (ps[k].1, false)).length), ((ps.set k (ps[k].1, false))[x]).1 = (ps[x]'(by simpa using hx)).1 := by
      intro x hx
      rw [List.getElem_set]
      split
      · rename_i e; subst e; rfl
      · rfl
    rw [e1] at h2 he
    rw [e1] at he
    exact h.inj i j (by simpa using hi) (by simpa using hj) h2 he
theorem Good.atOf_clean (h : Good ps slots) (hk : k < ps.length) (h0 : 0 ≤ ps[k].1) : atOf (ps.set k (ps[k].1, false)) = atOf ps := by
  funext x
  refine opt_ext fun a => ?_
  rw [(h.clean hk h0).iff, h.iff]
  have e1 : ∀ (x : Nat) (hx : x < (ps.set k (ps[k].1, false)).length), ((ps.set k (ps[k].1, false))[x]).1 = (ps[x]'(by simpa using hx)).1 := by
    intro x hx
    rw [List.getElem_set]
    split
    · rename_i e; subst e; rfl
    · rfl
  constructor
  · rintro ⟨hx, ha, he⟩
    rw [e1] at he
    exact ⟨hx, by simpa using ha, he⟩
  · rintro ⟨hx, ha, he⟩
    exact ⟨hx, by simpa using ha, by rw [e1]; exact he⟩
end
end Go.Proofs.YtnadilfobmgebaaGreatDoor
namespace Go.Proofs.YtnadilfobmgebaaGreatDoor
open Go Go.RowKit Go.Maps
def MapAt (w : World) (mb N : Nat) (f : Int → Option Nat) : Prop :=
  ∃ D : DataW Unit, w.ownsMap Tryz.prog 3 (plainElem Tryz.prog 3) mb N D ∧
    ∀ s : Int, Maps.has D (.int .i64 s) = (f s).isSome ∧ ∀ c, f s = some c → ∀ z, D.atKey (.int .i64 s) z = .lit (.int .i64 (c : Int))
theorem keyedI : Keyed Tryz.prog 3 := int_keyed Tryz.underlying3
theorem wfI {x : Int} (h1 : -9223372036854775808 ≤ x) (h2 : x < 9223372036854775808) : (Lit.int .i64 x).wf = true := by
  have e1 : IntKind.i64.min = -9223372036854775808 := by decide
  have e2 : IntKind.i64.max = 9223372036854775807 := by decide
  simp only [Lit.wf, e1, e2, Bool.and_eq_true, decide_eq_true_eq]
  omega
theorem keyI {x : Int} (h1 : -9223372036854775808 ≤ x) (h2 : x < 9223372036854775808) : keyOf Tryz.prog 3 (.int .i64 x) = some (.int .i64 x) := keyOf_int_mk Tryz.underlying3 (wfI h1 h2)
theorem MapAt.lt {w : World} {mb N : Nat} {f : Int → Option Nat} (h : MapAt w mb N f) : mb < w.heap.size := by obtain ⟨D, h, _⟩ := h; exact h.lt
theorem MapAt.keep {w w' : World} {mb N : Nat} {f : Int → Option Nat} (h : MapAt w mb N f) {S : Nat → Prop} (hu : Upd S w w') (hs : ¬ S mb) : MapAt w' mb N f := by
  obtain ⟨D, ⟨es, clock, hb, r⟩, hf⟩ := h
  exact ⟨D, ⟨es, clock, (hu.block _ (lt_of_block hb) hs).trans hb, r⟩, hf⟩
theorem MapAt.mono {w : World} {mb N N' : Nat} {f : Int → Option Nat} (h : MapAt w mb N f) (hn : N ≤ N') : MapAt w mb N' f := by obtain ⟨D, h, hf⟩ := h; exact ⟨D, h.mono hn, hf⟩
theorem MapAt.made (w : World) : MapAt (w.alloc (.map #[] 0)) w.heap.size 0 (fun _ => none) :=
  ⟨.map [], World.ownsMap_made w _ _ _, fun s => ⟨rfl, fun c h => by cases h⟩⟩
theorem upd_turned {w w' : World} {b : Nat} (h : w.mapTurned w' b) : Upd (fun j => j = b) w w' := by
  obtain ⟨a, b', c, d, e⟩ := h.grown
  exact ⟨a, b', c, d, fun i hi hs => e i hi (fun e => hs (by simpa using e))⟩
theorem turned_size {w w' : World} {b : Nat} (h : w.mapTurned w' b) : w'.heap.size = w.heap.size := by
  obtain ⟨es, clock, es', clock', hb, rfl⟩ := h
  simp [Go.ChangeMaps.setBlock]
theorem zeroI (w : World) : (zeroValue 3).run Tryz.prog w = .ok (.int .i64 0) w := by
  exact Tryz.zeroValue3 w
theorem MapAt.look {w : World} {mb N : Nat} {f : Int → Option Nat} (h : MapAt w mb N f) {x : Int} (h1 : -9223372036854775808 ≤ x) (h2 : x < 9223372036854775808) :
    (Instr.lookup 168 (.map (some mb)) (.int .i64 x) true).run Tryz.prog w = .ok (.tuple #[.int .i64 (((f x).getD 0 : Nat) : Int), .bool (f x).isSome]) w := by
  obtain ⟨D, ho, hf⟩ := h
  obtain ⟨v, ps, hr, hv⟩ := ho.look_ok keyedI Tryz.underlying168 (zeroI w) (plainElem_int Tryz.underlying3 (by decide)) (keyI h1 h2)
  obtain ⟨c, rfl, hc, hwc⟩ := plainElem_int_inv Tryz.underlying3 hv
  simp only [Prod.mk.injEq] at hc
  rw [hr, (hf x).1]
  have : c = (((f x).getD 0 : Nat) : Int) := by
    cases hx : f x with
    | none =>
      have h0 := (hf x).1
      rw [hx] at h0
      have := atKey_of_not_has (D := D) h0 (.lit (.int .i64 0))
      rw [this] at hc
      simp at hc
      simpa using hc.1.symm
    | some c' =>
      have := (hf x).2 c' hx (.lit (.int .i64 0))
      rw [this] at hc
      simp at hc
      simpa using hc.1.symm
  rw [this]
theorem MapAt.drop {w : World} {mb N : Nat} {f : Int → Option Nat} (h : MapAt w mb N f) {x : Int} (h1 : -9223372036854775808 ≤ x) (h2 : x < 9223372036854775808) (ty : TypeId) :
    ∃ w', (Builtin.delete_ #[168, 3] ty #[.map (some mb), .int .i64 x]).run Tryz.prog w = .ok (.tuple #[]) w' ∧ MapAt w' mb N (upd1 f x none) ∧ Upd (fun j => j = mb) w w' ∧ w'.heap.size = w.heap.size := by
  obtain ⟨D, ho, hf⟩ := h
  obtain ⟨w', hr, ho', ht⟩ := ho.drop keyedI Tryz.underlying168 (keyI h1 h2) ty
  refine ⟨w', hr, ⟨_, ho', fun s => ?_⟩, upd_turned ht, turned_size ht⟩
  by_cases hs : s = x
  · subst hs
    simp [upd1, has_del_same]
  · have hne : Lit.int .i64 s ≠ Lit.int .i64 x := fun e => hs (by injection e)
    simp only [upd1, if_neg hs, has_del_other hne]
    exact ⟨(hf s).1, fun c hc z => by rw [atKey_del_other hne]; exact (hf s).2 c hc z⟩
theorem MapAt.store {w : World} {mb N : Nat} {f : Int → Option Nat} (h : MapAt w mb N f) {x : Int} (h1 : -9223372036854775808 ≤ x) (h2 : x < 9223372036854775808) (c : Nat) (hc : c < 9223372036854775808) (hn : N < maxLen) :
    ∃ w', (Instr.mapUpdate 168 (.map (some mb)) (.int .i64 x) (.int .i64 (c : Int))).run Tryz.prog w = .ok () w' ∧ MapAt w' mb (N + 1) (upd1 f x (some c)) ∧ Upd (fun j => j = mb) w w' ∧ w'.heap.size = w.heap.size := by
  obtain ⟨D, ho, hf⟩ := h
  have hM := ho.isMap
  have hK : ∀ y : Int, WideAt.IsKeyLit (.int .i64 y) := fun _ => trivial
  obtain ⟨w', hr, ho', ht⟩ := ho.store (ps := []) (d := .lit (.int .i64 (c : Int))) keyedI Tryz.underlying168 hn (keyI h1 h2) (plainElem_int Tryz.underlying3 (wfI (by omega) (by omega)))
  refine ⟨w', hr, ⟨_, ho', fun s => ?_⟩, upd_turned ht, turned_size ht⟩
  by_cases hs : s = x
  · subst hs
    simp only [upd1]
    exact ⟨by rw [has_put_same hM (hK _)]; simp, fun c' hc' z => by simp at hc'; subst hc'; exact atKey_put_same hM (hK _) _ _⟩
  · have hne : Lit.int .i64 s ≠ Lit.int .i64 x := fun e => hs (by injection e)
    simp only [upd1, if_neg hs, has_put_other hne]
    exact ⟨(hf s).1, fun c hc z => by rw [atKey_put_other hne]; exact (hf s).2 c hc z⟩
def SetAt (w : World) (mb N : Nat) (A : Int → Bool) : Prop :=
  ∃ D : DataW Unit, w.ownsMap Tryz.prog 3 unitElem mb N D ∧ ∀ s : Int, Maps.has D (.int .i64 s) = A s
theorem SetAt.lt {w : World} {mb N : Nat} {A : Int → Bool} (h : SetAt w mb N A) : mb < w.heap.size := by obtain ⟨D, h, _⟩ := h; exact h.lt
theorem SetAt.keep {w w' : World} {mb N : Nat} {A : Int → Bool} (h : SetAt w mb N A) {S : Nat → Prop} (hu : Upd S w w') (hs : ¬ S mb) : SetAt w' mb N A := by
  obtain ⟨D, ⟨es, clock, hb, r⟩, hf⟩ := h
  exact ⟨D, ⟨es, clock, (hu.block _ (lt_of_block hb) hs).trans hb, r⟩, hf⟩
theorem SetAt.mono {w : World} {mb N N' : Nat} {A : Int → Bool} (h : SetAt w mb N A) (hn : N ≤ N') : SetAt w mb N' A := by obtain ⟨D, h, hf⟩ := h; exact ⟨D, h.mono hn, hf⟩
theorem SetAt.made (w : World) : SetAt (w.alloc (.map #[] 0)) w.heap.size 0 (fun _ => false) :=
  ⟨.map [], World.ownsMap_made w _ _ _, fun _s => rfl⟩
def updB (A : Int → Bool) (x : Int) (v : Bool) : Int → Bool := fun s => if s = x then v else A s
def InR (x : Int) : Prop := -9223372036854775808 ≤ x ∧ x < 9223372036854775808
theorem zeroU (w : World) : (zeroValue 315).run Tryz.prog w = .ok (.agg #[]) w := by
  exact Tryz.zeroValue315 w
theorem SetAt.look {w : World} {mb N : Nat} {A : Int → Bool} (h : SetAt w mb N A) {x : Int} (hx : InR x) :
    (Instr.lookup 291 (.map (some mb)) (.int .i64 x) true).run Tryz.prog w = .ok (.tuple #[.agg #[], .bool (A x)]) w := by
  obtain ⟨D, ho, hf⟩ := h
  obtain ⟨v, ps, hr, hv⟩ := ho.look_ok keyedI Tryz.underlying291 (zeroU w) unitElem_mk (keyI hx.1 hx.2)
  obtain ⟨rfl, _⟩ := unitElem_inv hv
  rw [hr, hf x]
theorem SetAt.drop {w : World} {mb N : Nat} {A : Int → Bool} (h : SetAt w mb N A) {x : Int} (hx : InR x) (ty : TypeId) :
    ∃ w', (Builtin.delete_ #[291, 3] ty #[.map (some mb), .int .i64 x]).run Tryz.prog w = .ok (.tuple #[]) w' ∧ SetAt w' mb N (updB A x false) ∧ Upd (fun j => j = mb) w w' ∧ w'.heap.size = w.heap.size := by
  obtain ⟨D, ho, hf⟩ := h
  obtain ⟨w', hr, ho', ht⟩ := ho.drop keyedI Tryz.underlying291 (keyI hx.1 hx.2) ty
  refine ⟨w', hr, ⟨_, ho', fun s => ?_⟩, upd_turned ht, turned_size ht⟩
  by_cases hs : s = x
  · subst hs
    simp [updB, has_del_same]
  · have hne : Lit.int .i64 s ≠ Lit.int .i64 x := fun e => hs (by injection e)
    simp only [updB, if_neg hs, has_del_other hne]
    exact hf s
theorem SetAt.store {w : World} {mb N : Nat} {A : Int → Bool} (h : SetAt w mb N A) {x : Int} (hx : InR x) (hn : N < maxLen) :
    ∃ w', (Instr.mapUpdate 291 (.map (some mb)) (.int .i64 x) (.agg #[])).run Tryz.prog w = .ok () w' ∧ SetAt w' mb (N + 1) (updB A x true) ∧ Upd (fun j => j = mb) w w' ∧ w'.heap.size = w.heap.size := by
  obtain ⟨D, ho, hf⟩ := h
  have hM := ho.isMap
  have hK : ∀ y : Int, WideAt.IsKeyLit (.int .i64 y) := fun _ => trivial
  obtain ⟨w', hr, ho', ht⟩ := ho.store (ps := []) (d := .agg []) keyedI Tryz.underlying291 hn (keyI hx.1 hx.2) unitElem_mk
  refine ⟨w', hr, ⟨_, ho', fun s => ?_⟩, upd_turned ht, turned_size ht⟩
  by_cases hs : s = x
  · subst hs
    simp only [updB, if_true]
    rw [has_put_same hM (hK _)]
  · have hne : Lit.int .i64 s ≠ Lit.int .i64 x := fun e => hs (by injection e)
    simp only [updB, if_neg hs, has_put_other hne]
    exact hf s
set_option maxRecDepth 100000 in
theorem sclone_any {w : World} {mb N : Nat} {A : Int → Bool} (h : SetAt w mb N A) :
    Calls Tryz.prog 252 #[.map (some mb)] w fun e w' => e = .returned (.map (some w.heap.size)) ∧ SetAt w' w.heap.size N A ∧ Below w.heap.size w w' := by
  obtain ⟨D, ⟨es, clock, hb, hF, hs, hD⟩, hf⟩ := h
  have hq := fun w => run_eql_map_nil_sl (P := Tryz.prog) w 291 _ _ (some mb) Tryz.underlying291
  have hend : SetAt (w.alloc (.map es clock)) w.heap.size N A := ⟨D, ⟨es, clock, (MapKept.heap_alloc w _).1, hF, hs, hD⟩, hf⟩
  have HE := Lib.hid hend
  clear hend hf hD hs hF
  go_enter Tryz.func252, Tryz.ntmps252
  go_wp2
  rw [run_callFunc_extern Tryz.func262 (by kernel_rfl) (by kernel_rfl) (by kernel_rfl) (e := Extern.MapsClone.clone) (by kernel_rfl), run_maps_clone_sl w 291 hb]
  simp only [Result.andThen]
  rw [Oper.upon_value]
  go_wp2
  rw [run_typeAssert_map_sl _ 291 _ _ _ _ Tryz.underlying291]
  simp only [Result.andThen]
  rw [Oper.upon_value]
  go_wp2
  go_ret
  exact ⟨rfl, HE.out, (Below.refl _ _).alloc (Nat.le_refl _) _⟩
set_option maxRecDepth 100000 in
theorem wasAsked_any {w : World} {mb N : Nat} {A : Int → Bool} (h : SetAt w mb N A) (k : Int) (hk : InR k) :
    Calls Tryz.prog 253 #[.map (some mb), .int .i64 k] w fun e w' => e = .returned (.bool (A k)) ∧ Below w.heap.size w w' := by
  have hmf : ∀ (fn : Fn) (first cap : Array Value) (w : World), (Instr.makeFunc fn first cap).run Tryz.prog w = .ok (.func fn first cap) w := fun _ _ _ _ => rfl
  have hl := (SetAt.keep h ((Upd.refl (fun _ => False) w).alloc (.cells #[.bool false] 4)) (fun h => h)).look hk
  clear h
  go_enter_defers Tryz.func253, Tryz.ntmps253
  go_wp2
  refine leaves_cons (f := 263) (args := #[.pointer (some ⟨w.heap.size, 0, none⟩)]) (by simp) (by simp [go_sem]) ?_
  refine (wasAsked_idle _ _).mono ?_
  rintro e u' w'' ⟨rfl, rfl, rfl⟩
  simp [Leaves, settle, results, Tryz.results253, go_sem]
  exact (Below.refl _ _).alloc (Nat.le_refl _) _
end Go.Proofs.YtnadilfobmgebaaGreatDoor
