/- What a cache's device holds behind Wipe: the plain law; a checkpoint is read beside a cache. A checkpoint is read beside a cache: what is read is nobody's. The laws' calls as they came: rows of four integers. lavabolaw14.Few: are calls not too many, and sizes small? The chapter's example of layer 14. Entries of checkpoints: rows of four cells, and their equality. -/
import Derived.Test.YtfhfbpmlnjdfoaaGreatDoorG32
import Derived.Test.YtfhfbpmlnjdfoaaGreatDoorG34
import Derived.Test.YtfhfbpmlnjdfoaaGreatDoorG33
import Derived.Test.YtfhfbpmlnjdfoaaGreatDoorG11
import Derived.Test.YtfhfbpmlnjdfoaaGreatDoorG03
import Derived.Test.YtfhfbpmlnjdfoaaGreatDoorG01
import Derived.Deep.LoopGhost
import Derived.Test.YtfhfbpmlnjdfoaaGreatDoorG27
import Derived.Test.YtfhfbpmlnjdfoaaGreatDoorG25
import Derived.Test.YtfhfbpmlnjdfoaaGreatDoorG30
import Derived.Test.YtfhfbpmlnjdfoaaGreatDoorG10
namespace Go.Proofs.YtfhfbpmlnjdfoaaGreatDoor
open Go Go.RowKit
section
variable {n : CaN} {a : CaS}
theorem CaS.ents_in (ht : a.Tie n none) {x : Ent} (hx : x ∈ a.ents n) : ∃ k, k < n.bl ∧ x = ⟨k, (plc a.ps k).1.toNat, (plc a.ps k).2, (a.sums (k : Int)).getD 0⟩ ∧ plc a.ps k ≠ (-1, false) ∧ 0 ≤ (plc a.ps k).1 ∧ (plc a.ps k).1 < n.sl := by
  obtain ⟨y, hy, rfl⟩ := List.mem_map.1 hx
  obtain ⟨k, hk, rfl, hq⟩ := vis_in hy
  have hkl : k < a.ps.length := by simp [spanL] at hk; omega
  have e : (spanL a.ps 0 n.bl)[k] = a.ps[k] := by simp [spanL]
  have hp := plc_at hkl
  rw [e, ← hp] at hq ⊢
  have hg := (ht.good.each k hkl).resolve_left (by rw [← hp]; exact hq)
  rw [← hp] at hg
  exact ⟨k, by rw [← ht.hpl]; exact hkl, by simp [CaS.ent], hq, hg.1, hg.2⟩
theorem pos_freed (F : List Int) : pos (freeTo F (pos F 3)) 3 = [] := by
  generalize hF : freeTo F (pos F 3) = X
  unfold pos posTo
  rw [List.filter_eq_nil_iff]
  intro k hk
  have hk := List.mem_range.1 hk
  rw [← hF, freeTo_len] at hk
  rw [← hF, beq_iff_eq, ← List.getD_eq_getElem?_getD, freed_get _ _ hk]
  split
  · decide
  · next e => exact e
theorem needN_le {k m : Nat} (h : k ≤ m) : needN k ≤ needN m := by unfold needN; omega
theorem CaS.ents_ok (ht : a.Tie n none) (hok : n.Ok) (hsm : ∀ k v, a.sums k = some v → v ≤ 4294967295) : (∀ x ∈ a.ents n, EntOk x) ∧ needN (a.ents n).length ≤ n.pa := by
  refine ⟨fun x hx => ?_, ?_⟩
  · obtain ⟨k, hk, rfl, -, h1, h2⟩ := CaS.ents_in ht hx
    have hb := hok.b2
    have hs := hok.s2
    refine ⟨by show k ≤ 4095; omega, by show (plc a.ps k).1.toNat ≤ 1023; omega, ?_⟩
    show (a.sums (k : Int)).getD 0 ≤ 4294967295
    cases hc : a.sums (k : Int) with
    | none => simp
    | some m => exact hsm _ _ hc
  · have h1 : (a.ents n).length ≤ n.sl := by unfold CaS.ents; rw [List.length_map]; exact vis_le ht.good _
    have h2 := needN_le h1
    have h3 := hok.p1
    unfold needN at h2 ⊢
    omega
theorem CaS.NoP.wiped (h : a.NoP) (hl : a.dF.length = n.size) (hw : a.which ≤ 1) :
    (∀ i, i < n.pa → (a.wiped n).dF.getD (1 + i) zB = (pagesB (a.next - 1) (a.ents n)).getD i zB) ∧ (∀ i, i < n.pa → (a.wiped n).dF.getD (1 + n.pa + i) zB = (pagesB (a.next - 1) (a.ents n)).getD i zB) ∧
      (∀ i, i < n.jo → (a.wiped n).dF.getD (1 + 2 * n.pa + i) zB = zB) ∧ (a.wiped n).bO = [] ∧ pos (a.wiped n).st 3 = [] ∧ (a.wiped n).ps = a.ps ∧ (a.wiped n).dF.length = n.size := by
  obtain ⟨P, hP⟩ : ∃ P, P = pagesB (a.next - 1) (a.ents n) := ⟨_, rfl⟩
  obtain ⟨A, hA⟩ : ∃ A, A = flushF a.dF a.dO := ⟨_, rfl⟩
  have hAl : A.length = n.size := by rw [hA, flushF_len, hl]
  have h1 := h.ckpt_eq (n := n)
  obtain ⟨b, hb⟩ : ∃ b, b = (a.ckpt n).1 := ⟨_, rfl⟩
  have hbN : b.NoP := by rw [hb, h1]; exact ⟨rfl, rfl⟩
  have h2 := hbN.ckpt_eq (n := n)
  have hbe : b.ents n = a.ents n := by rw [hb, h1]; rfl
  have hbn : b.next = a.next := by rw [hb, h1]
  have hbd : b.dF = flushF A (ckO (1 + (1 - a.which) * n.pa) n.pa P) := by rw [hb, h1, hP, hA]
  have hbo : b.dO = [] := by rw [hb, h1]
  have hbw : b.which = 1 - a.which := by rw [hb, h1]
  have hbs : b.ps = a.ps := by rw [hb, h1]
  have e2 : a.ckN n 2 = (b.ckpt n).1 := by rw [hb]; rfl
  have hd : (a.wiped n).dF = flushF (flushF (flushF A (ckO (1 + (1 - a.which) * n.pa) n.pa P)) (ckO (1 + (1 - (1 - a.which)) * n.pa) n.pa P)) ([] ++ zsW (1 + 2 * n.pa) n.jo) := by
    show flushF (a.ckN n 2).dF ((a.ckN n 2).dO ++ zsW (1 + 2 * n.pa) n.jo) = _
    rw [e2, h2, hbe, hbn, hbd, hbo, hbw, hP]
    rfl
  have hz : n.size = 1 + 2 * n.pa + n.jo + n.lo + n.lo + n.lo + n.sl := rfl
  have hlen : ∀ (X : List Bk) (Y : List (Nat × Bk)), (flushF X Y).length = X.length := flushF_len
  refine ⟨fun i hi => ?_, fun i hi => ?_, fun i hi => ?_, ?_, ?_, ?_, ?_⟩
  · rw [hd, flush_zs, if_neg (by omega), show flushF (flushF (flushF A (ckO (1 + (1 - a.which) * n.pa) n.pa P)) (ckO (1 + (1 - (1 - a.which)) * n.pa) n.pa P)) [] = flushF (flushF A (ckO (1 + (1 - a.which) * n.pa) n.pa P)) (ckO (1 + (1 - (1 - a.which)) * n.pa) n.pa P) from rfl, flush_ck, flush_ck, hlen, hAl, ← hP]
    rcases (show a.which = 0 ∨ a.which = 1 by omega) with e | e
    · rw [e, if_pos (by omega)]; congr 1; omega
    · rw [e, if_neg (by omega), if_pos (by omega)]; congr 1; omega
  · rw [hd, flush_zs, if_neg (by omega), show flushF (flushF (flushF A (ckO (1 + (1 - a.which) * n.pa) n.pa P)) (ckO (1 + (1 - (1 - a.which)) * n.pa) n.pa P)) [] = flushF (flushF A (ckO (1 + (1 - a.which) * n.pa) n.pa P)) (ckO (1 + (1 - (1 - a.which)) * n.pa) n.pa P) from rfl, flush_ck, flush_ck, hlen, hAl, ← hP]
    rcases (show a.which = 0 ∨ a.which = 1 by omega) with e | e
    · rw [e, if_neg (by omega), if_pos (by omega)]; congr 1; omega
    · rw [e, if_pos (by omega)]; congr 1; omega
  · rw [hd, flush_zs, if_pos ⟨by omega, by omega, by rw [hlen, hlen, hAl]; omega⟩]
  · show (a.ckN n 2).bO = []
    rw [e2, h2]
  · show pos (a.ckN n 2).st 3 = []
    rw [e2, h2]
    show pos (freeTo b.st (pos b.st 3)) 3 = []
    generalize b.st = F
    exact pos_freed F
  · show (a.ckN n 2).ps = _
    rw [e2, h2, hbs]
  · rw [hd, hlen, hlen, hlen, hAl]
end
section
variable {own : Nat → Nat} {w w' : World} {c : Nat} {n : CaN} {p : CaP} {a : CaS}
theorem CaAt.hand (h : CaAt own w c n p a) {v : Value} (hv : ∀ g, v.ownBlock = some g → own g = 2) (hd : Dv (fun j => own j = 2 ∧ ∀ g, v.ownBlock = some g → g ≠ j) w p.ssd a.dF a.dO a.dP) : CaAt (fun j => if v.ownBlock = some j then 0 else own j) w c n p a := by
  have hk : ∀ {k j : Nat}, k ≠ 2 → own j = k → (if v.ownBlock = some j then 0 else own j) = k := fun hk hj => by
    rw [if_neg (fun e => hk (by rw [← hj, hv _ e]))]; exact hj
  exact { h with
    oc := hk (by decide) h.oc
    ssd := (Dv.thing _ _ _ _).out hd (fun j _ hs => by
      show (if v.ownBlock = some j then 0 else own j) = 2
      rw [if_neg (fun e => hs.2 _ e rfl)]; exact hs.1)
    back := (Dv.thing _ _ _ _).out h.back (fun j _ hs => hk (by decide) hs)
    jr := (Jn.thing _ _ _ _ _ _ _).out h.jr (fun j _ hs => hk (by decide) hs)
    ix := (Ix.thing _ _ _ _).out h.ix (fun j _ hs => hk (by decide) hs)
    ss := (Ss.thing _ _).out h.ss (fun j _ hs => hk (by decide) hs)
    lg := (Lg.thing _ _ _).out h.lg (fun j _ hs => hk (by decide) hs)
    ck := (Ck.thing _ _ _ _ _ _ _).out h.ck (fun j _ hs => hk (by decide) hs)
    sm := (Mp.thing _ _ _).out h.sm (fun j _ hs => hk (by decide) hs)
    far := fun j hj => by
      show (if v.ownBlock = some j then 0 else own j) = 0
      split
      · rfl
      · exact h.far j hj
    on := hk (by decide) h.on
    ot := hk (by decide) h.ot }
def HandOut (own : Nat → Nat) (w : World) (c : Nat) (n : CaN) (p : CaP) (a : CaS) (v : Value) (w' : World) : Prop :=
  ∃ own', CaAt own' w' c n p a ∧ Did own own' w w' ∧ ∀ g, v.ownBlock = some g → w.heap.size ≤ g ∧ own' g = 0
theorem CaAt.handed (h : CaAt own w c n p a) (hP : a.dP = []) {v : Value} (hf : From w.heap.size v) (hlt : ∀ g, v.ownBlock = some g → g < w'.heap.size) (hu : Upd (fun j => own j = 2 ∨ w.heap.size ≤ j) w w')
    (hd : Dv (fun j => (own j = 2 ∨ w.heap.size ≤ j) ∧ ∀ g, v.ownBlock = some g → g ≠ j) w' p.ssd a.dF a.dO []) : HandOut own w c n p a v w' := by
  have e : { a with dF := a.dF, dO := a.dO, dP := [] } = a := by rw [← hP]
  have h1 := h.turn2 hu (hd.wide (fun j h => h.1)) rfl
  rw [e] at h1
  have d1 := h.did2 hu
  have hg2 : ∀ g, v.ownBlock = some g → grow own 2 w.heap.size w'.heap.size g = 2 := fun g hg => if_pos ⟨hf g hg, hlt g hg⟩
  have h2 := h1.hand hg2 (by
    rw [hP]
    refine (Dv.thing _ _ _ _).out hd (fun j hj hs => ⟨?_, hs.2⟩)
    show grow own 2 w.heap.size w'.heap.size j = 2
    unfold grow
    split
    · rfl
    · rcases hs.1 with h | h
      · exact h
      · omega)
  refine ⟨_, h2, ⟨d1.upd, fun j hj => ?_, fun j hj => ?_, fun j hj => ?_⟩, fun g hg => ⟨hf g hg, by show (if v.ownBlock = some g then 0 else _) = 0; rw [if_pos hg]⟩⟩
  · show (if v.ownBlock = some j then 0 else _) = _
    rw [if_neg (fun e => by have := hf j e; omega)]
    exact d1.old j hj
  · show (if v.ownBlock = some j then 0 else _) < 16
    split
    · decide
    · exact d1.new j hj
  · show (if v.ownBlock = some j then 0 else _) = 0
    split
    · rfl
    · exact d1.far j hj
theorem ca_pread (h : CaAt own w c n p a) (hP : a.dP = []) (base : Nat) (hb : base + n.pa ≤ n.size) {seq : Nat} {E : List Ent} (hr : readOk (secsOf a.dF a.dO base n.pa) = true ∧ readSeq (secsOf a.dF a.dO base n.pa) = seq ∧ readEs (secsOf a.dF a.dO base n.pa) = E) :
    Calls Tryz.prog 35 #[ptr p.ssd, .int .i64 (base : Int), .int .i64 (n.pa : Int)] w fun e w' => ∃ v, e = .returned (.tuple #[.int .i64 (seq : Int), v, .int .i64 0]) ∧ Sl w' 37 4 v E.length (E.flatMap entC) ∧ HandOut own w c n p a v w' := by
  have ho := h.open2
  rw [hP] at ho
  refine (pread ho (fun j hj => .inr hj) base n.pa (by have := h.ok.p1; omega) (by rw [h.fl]; exact hb) h.nib (fun hs => by rcases hs with hs | hs; rw [h.on] at hs; cases hs; have := h.nib.lt; omega)).mono ?_
  rintro e w' ⟨v, rfl, hs, hf, hd, hu⟩
  obtain ⟨h1, h2, h3⟩ := hr
  rw [h1, if_pos rfl, if_pos rfl, h2]
  rw [h1, if_pos rfl, h3] at hs
  exact ⟨v, rfl, hs, h.handed hP hf (fun g hg => hs.lt hg) hu hd⟩
end
structure Op15 where
  dd : Int
  bb : Int
  nn : Int
  mm : Int
  deriving Inhabited
abbrev op15C (o : Op15) : List Value := [.int .i64 o.dd, .int .i64 o.bb, .int .i64 o.nn, .int .i64 o.mm]
def ops15 (l : List Op15) : List Value := l.flatMap op15C
theorem ops15_at {l : List Op15} {k : Nat} (h : k < l.length) : (ops15 l)[k * 4]? = some (.int .i64 l[k].dd) ∧ (ops15 l)[k * 4 + 1]? = some (.int .i64 l[k].bb) ∧ (ops15 l)[k * 4 + 2]? = some (.int .i64 l[k].nn) ∧ (ops15 l)[k * 4 + 3]? = some (.int .i64 l[k].mm) := by
  have h1 := flat_at (f := op15C) (k := 4) (fun _ => rfl) l k 0 (by omega) l[k] (by simp)
  have h2 := flat_at (f := op15C) (k := 4) (fun _ => rfl) l k 1 (by omega) l[k] (by simp)
  have h3 := flat_at (f := op15C) (k := 4) (fun _ => rfl) l k 2 (by omega) l[k] (by simp)
  have h4 := flat_at (f := op15C) (k := 4) (fun _ => rfl) l k 3 (by omega) l[k] (by simp)
  unfold ops15
  exact ⟨by simpa using h1, by simpa using h2, by simpa using h3, by simpa using h4⟩
theorem op15_cells {w : World} {v : Value} {l : List Op15} (h : Rd w 4 v l.length (ops15 l)) {k : Nat} (hk : k < l.length) : ∃ bl off c, v = .slice (some ⟨bl, off, none⟩) l.length c ∧ bl < w.heap.size ∧
    w.cell? ⟨bl, off + k * 4, none⟩ = some (.int .i64 l[k].dd) ∧ w.cell? ⟨bl, off + k * 4 + 1, none⟩ = some (.int .i64 l[k].bb) ∧ w.cell? ⟨bl, off + k * 4 + 2, none⟩ = some (.int .i64 l[k].nn) ∧ w.cell? ⟨bl, off + k * 4 + 3, none⟩ = some (.int .i64 l[k].mm) := by
  obtain ⟨bl, off, c, rfl, hb, hc⟩ := h.at (by omega)
  obtain ⟨h0, h1, h2, h3⟩ := ops15_at hk
  exact ⟨bl, off, c, rfl, hb, hc _ _ h0, hc (k * 4 + 1) _ h1, hc (k * 4 + 2) _ h2, hc (k * 4 + 3) _ h3⟩
def Few15 (b s j : Int) (l : List Op15) : Prop := (∀ k (h : k < l.length), 0 ≤ l[k].nn ∧ l[k].nn ≤ 255) ∧ (1 ≤ b ∧ b ≤ 12) ∧ (1 ≤ s ∧ s ≤ 8) ∧ (4 ≤ j ∧ j ≤ 12) ∧ l.length ≤ 60
def FewOut (w : World) (b s j : Int) (l : List Op15) (e : Ending) (w' : World) : Prop := ∃ q, e = .returned (.bool q) ∧ (q = true ↔ Few15 b s j l) ∧ Below w.heap.size w w'
abbrev threeV (b s j : Int) : Value := .agg #[.int .i64 b, .int .i64 s, .int .i64 j]
set_option maxRecDepth 100000 in
set_option maxHeartbeats 2000000 in
theorem few14 (b s j : Int) (v : Value) (l : List Op15) (w : World) (hv : Rd w 4 v l.length (ops15 l)) : Calls Tryz.prog 27 #[threeV b s j, v] w (FewOut w b s j l) := by
  obtain ⟨w1, hw1⟩ : ∃ w1, w1 = w.alloc (.cells #[.int .i64 b, .int .i64 s, .int .i64 j] 75) := ⟨_, rfl⟩
  have g1 : w1.heap[w.heap.size]? = some (.cells #[.int .i64 b, .int .i64 s, .int .i64 j] 75 (0, 0)) := by rw [hw1]; exact heap_alloc_last w _ rfl
  have hb1 : Below w.heap.size w w1 := by rw [hw1]; exact (Below.refl _ w).alloc (Nat.le_refl _) _
  have k0 := cell_of_block g1 0
  have k1 := cell_of_block g1 1
  have k2 := cell_of_block g1 2
  simp at k0 k1 k2
  have hle := hv.le
  unfold maxLen at hle
  have HV := Lib.hid (And.intro hv hb1)
  have HW := Lib.hid hw1
  obtain ⟨ao, c, rfl⟩ := hv.nil_iff
  clear hv g1 hb1 hw1
  go_enter Tryz.func27, Tryz.ntmps27
  go_wp2_with fail
  rw [← HW.out]
  go_loopg [5] l.length (fun g i wr => ∃ k : Nat, k + g = l.length ∧ i = .int .i64 (k : Int) ∧ (∀ m (h : m < l.length), m < k → 0 ≤ l[m].nn ∧ l[m].nn ≤ 255) ∧ wr = w1)
  case atStart => exact ⟨0, by omega, rfl, fun m h hm => absurd hm (Nat.not_lt_zero _), rfl⟩
  case round =>
    obtain ⟨k, hk, rfl, hP, hwr⟩ := hrel
    subst hwr
    have HP := Lib.hid hP
    clear hP
    by_cases hlt : k < l.length
    · obtain ⟨bl, off, c', hvv, hbl, hc0, hc1, hc2, hc3⟩ := op15_cells HV.out.1 hlt
      cases hvv
      replace hc2 := (HV.out.2.cell (p := ⟨bl, off + k * 4 + 2, none⟩) hbl).trans hc2
      have hN : ¬ (0 ≤ l[k].nn ∧ l[k].nn ≤ 255) → ¬ Few15 b s j l := fun h hf => h (hf.1 k hlt)
      have hS : (0 ≤ l[k].nn ∧ l[k].nn ≤ 255) → ∀ m (h : m < l.length), m < k + 1 → 0 ≤ l[m].nn ∧ l[m].nn ≤ 255 := fun hx m h hm => by
        by_cases e : m = k
        · subst e; exact hx
        · exact HP.out m h (by omega)
      have q1 : (k : Int) < (l.length : Int) := by omega
      clear hc0 hc1 hc3 hbl
      generalize l[k].nn = x at *
      have HX := Lib.hid (And.intro hN hS)
      clear hN hS hlt
      by_cases hx : 0 ≤ x ∧ x ≤ 255
      · obtain ⟨x1, x2⟩ := hx
        have HS := Lib.hid (HX.out.2 ⟨x1, x2⟩)
        go_wp2
        go_roundg (gk - 1)
        case measure => omega
        case rel => exact ⟨k + 1, by omega, by go_num, HS.out, rfl⟩
      · have HN := Lib.hid (HX.out.1 hx)
        have hx' : x < 0 ∨ 255 < x := by omega
        clear hx
        go_wp2
        all_goals
          go_ret
          exact ⟨false, rfl, ⟨fun e => (by cases e), fun e => absurd e HN.out⟩, HV.out.2⟩
    · obtain rfl : k = l.length := by omega
      have hA : ∀ m (h : m < l.length), 0 ≤ l[m].nn ∧ l[m].nn ≤ 255 := fun m h => HP.out m h h
      have HA := Lib.hid hA
      clear hA hlt
      by_cases h7 : l.length ≤ 60
      · have q7 : decide ((l.length : Int) ≤ 60) = true := by simp; omega
        by_cases hR : (1 ≤ b ∧ b ≤ 12) ∧ (1 ≤ s ∧ s ≤ 8) ∧ (4 ≤ j ∧ j ≤ 12)
        · have HR := Lib.hid (And.intro hR h7)
          obtain ⟨⟨r1, r2⟩, ⟨r3, r4⟩, ⟨r5, r6⟩⟩ := hR
          go_wp2
          go_ret
          exact ⟨true, by first | rfl | rw [q7], ⟨fun _ => ⟨HA.out, HR.out.1.1, HR.out.1.2.1, HR.out.1.2.2, HR.out.2⟩, fun _ => rfl⟩, HV.out.2⟩
        · have HR := Lib.hid hR
          have hN : b < 1 ∨ 12 < b ∨ s < 1 ∨ 8 < s ∨ j < 4 ∨ 12 < j := by omega
          clear hR
          go_wp2
          all_goals
            go_ret
            exact ⟨false, rfl, ⟨fun e => (by cases e), fun e => absurd ⟨e.2.1, e.2.2.1, e.2.2.2.1⟩ HR.out⟩, HV.out.2⟩
      · have q7 : decide ((l.length : Int) ≤ 60) = false := by simp; omega
        have HR := Lib.hid h7
        go_wp2
        all_goals
          go_ret
          exact ⟨false, by first | rfl | rw [q7], ⟨fun e => (by cases e), fun e => absurd e.2.2.2.2 HR.out⟩, HV.out.2⟩
def awS : Nat → CaS
  | 0 => madeS (smN 9 2 8)
  | k + 1 => ((awS k).wrote (smN 9 2 8) (k : Int) (fillB (k + 1)) 0).1
theorem awS_c (k : Nat) (h : k < 3) : ((awS k).wrote (smN 9 2 8) (k : Int) (fillB (k + 1)) 0).2 = 0 := by
  rcases (show k = 0 ∨ k = 1 ∨ k = 2 by omega) with rfl | rfl | rfl
  · kernel_rfl
  · kernel_rfl
  · kernel_rfl
theorem awS_p : getC (awS 3).ps 2 = 14 := by kernel_rfl
theorem awS_v : getV (awS 3).ps 2 = (0, false) := by kernel_rfl
theorem awS_st : (pos ((awS 3).readB (smN 9 2 8) 2).1.st 2).length = 2 := by kernel_rfl
theorem awS_r : ((awS 3).readB (smN 9 2 8) 2).2 = (fillB 3, 0) := by kernel_rfl
theorem smN_ok (bl sl jo : Nat) (h1 : 1 ≤ bl) (h2 : bl ≤ 12) (h3 : 1 ≤ sl) (h4 : sl ≤ 8) (h5 : 4 ≤ jo) (h6 : jo ≤ 12) : (smN bl sl jo).Ok := by
  have hp : (sl - 1) / 4 ≤ 1 := by omega
  constructor <;> simp only [smN, CaN.size] <;> omega
theorem Did.below {own own' : Nat → Nat} {w0 w w' : World} (h : Did own own' w w') (hb : Below w0.heap.size w0 w) (ho : ∀ j, j < w0.heap.size → own j = 0) : Below w0.heap.size w0 w' :=
  below_upd hb h.upd (Nat.le_refl _) (fun k hk => Nat.le_of_not_lt fun hlt => hk.1 (ho k hlt))
set_option maxRecDepth 100000 in
set_option maxHeartbeats 1000000 in
theorem awake14 (w : World) (nib : Nib w) (tur : Tur w) : Calls Tryz.prog 28 #[] w fun e w' => e = .returned (.bool true) ∧ Below w.heap.size w w' := by
  have HS := Lib.hid (small_any 9 2 8 (by omega) (by omega) w)
  have HN := Lib.hid (And.intro nib tur)
  clear nib tur
  go_enter Tryz.func28, Tryz.ntmps28
  go_wp2_with fail
  refine HS.out.mono ?_
  rintro e w1 ⟨rfl, hb1⟩
  have HM := Lib.hid (made_ok (smN 9 2 8) (smN_ok 9 2 8 (by omega) (by omega) (by omega) (by omega) (by omega) (by omega)) w1 (HN.out.1.below hb1) (HN.out.2.keep (Upd.of_below (S := fun _ => False) hb1) (fun h => h)))
  have HB1 := Lib.hid hb1
  clear hb1 HS
  generalize (smN 9 2 8).C.toArray = SC at *
  go_wp2_with fail
  refine HM.out.mono ?_
  rintro e w2 ⟨c, p, own, rfl, h2, hb2, ho⟩
  have H2 := Lib.hid (And.intro h2 (And.intro (HB1.out.trans (hb2.mono HB1.out.size)) (fun j (hj : j < w.heap.size) => ho j (Nat.lt_of_lt_of_le hj HB1.out.size))))
  clear h2 hb2 ho HM
  go_wp2_with fail
  go_loopg [4] 3 (fun g i wr => ∃ k : Nat, k + g = 3 ∧ i = .int .i64 (k : Int) ∧ ∃ own', CaAt own' wr c (smN 9 2 8) p (awS k) ∧ Did own own' w2 wr ∧ (awS k).Tie (smN 9 2 8) none ∧ (awS k).Fit (3 + k * 30))
  case atStart => exact ⟨0, by omega, rfl, own, H2.out.1, Did.refl H2.out.1.far, made_tie _, made_fit _⟩
  case round =>
    obtain ⟨k, hk, rfl, own1, h1, d1, t1, f1⟩ := hrel
    by_cases hlt : k < 3
    · have hF := Lib.hid (fill_any (k + 1) (by omega) wr)
      have H1 := Lib.hid (And.intro h1 (And.intro d1 (And.intro t1 f1)))
      have e1 : ((k + 1 : Nat) : Int) = (k : Int) + 1 := by simp
      rw [e1] at hF
      clear h1 d1 t1 f1 e1
      have k1 : (k : Int) < 3 := by omega
      go_wp2_with fail
      refine hF.out.mono ?_
      rintro e w3 ⟨rfl, hb3⟩
      obtain ⟨h1, d1, t1, f1⟩ := H1.out
      have hu3 : Upd (fun _ => False) wr w3 := Upd.of_below hb3
      have h3 := h1.new hu3
      have HW := Lib.hid (CaOut.from (d1.trans (h1.didNew hu3)) (ca_write h3 f1 (by simp only [smN]; omega) t1 (k : Int) (fillB (k + 1)) (fillB_len _) 0))
      have ht := t1.wrote h3.nx1 (by decide) (k : Int) (fillB (k + 1)) 0
      have hf := f1.wrote h3.jg h3.nx1 (by decide) (k : Int) (fillB (k + 1)) 0
      rw [awS_c k hlt] at HW
      have HX := Lib.hid (And.intro ht hf)
      clear h1 d1 t1 f1 hu3 hb3 h3 ht hf hF
      go_wp2_with fail
      refine HW.out.mono ?_
      rintro e w4 ⟨rfl, own4, h4, d4⟩
      have H4 := Lib.hid (And.intro h4 d4)
      clear h4 d4 HW
      go_wp2
      go_roundg (gk - 1)
      case measure => omega
      case rel =>
        refine ⟨k + 1, by omega, by go_num, own4, H4.out.1, H4.out.2, HX.out.1, HX.out.2.mono ?_⟩
        simp only [smN]; omega
    · obtain rfl : k = 3 := by omega
      have HP := Lib.hid (CaOut.from d1 (ca_place h1 2))
      rw [awS_v, awS_p] at HP
      have k1 : ¬ (((3 : Nat) : Int) < 3) := by decide
      clear h1 d1 t1 f1
      go_wp2_with fail
      refine HP.out.mono ?_
      rintro e w3 ⟨rfl, own3, h3, d3⟩
      have hu3 : Upd (fun _ => False) w3 (w3.alloc (.cells #[.int .i64 0, .bool false] 95)) := (Upd.refl _ _).alloc _
      obtain ⟨w4, hw4⟩ : ∃ w4, w4 = w3.alloc (.cells #[.int .i64 0, .bool false] 95) := ⟨_, rfl⟩
      rw [← hw4] at hu3
      have HR := Lib.hid (And.intro (ca_read (h3.new hu3) 2) (d3.trans (h3.didNew hu3)))
      have HW := Lib.hid hw4
      clear h3 d3 hu3 hw4 HP
      go_wp2_with fail
      rw [← HW.out]
      refine HR.out.1.mono ?_
      rintro e w5 ⟨y, cd, hy, hcd, hyl, rfl, own5, h5, d5⟩
      have hr := awS_r
      have hy3 : y = fillB 3 := hy.trans (congrArg Prod.fst hr)
      have hc0 : cd = 0 := hcd.trans (congrArg Prod.snd hr)
      subst hc0
      obtain ⟨w6, hw6⟩ : ∃ w6, w6 = w5.alloc (.cells (bkC y).toArray 54) := ⟨_, rfl⟩
      have hu6 : Upd (fun _ => False) w5 w6 := by rw [hw6]; exact (Upd.refl _ w5).alloc _
      have g6 : w6.heap[w5.heap.size]? = some (.cells (bkC y).toArray 54 (0, 0)) := by rw [hw6]; exact heap_alloc_last w5 _ rfl
      obtain ⟨gb, hgb⟩ : ∃ gb, gb = w5.heap.size := ⟨_, rfl⟩
      rw [← hgb] at g6
      have r6 := range_of_block g6
      have hud := (Upd.refl (fun _ => False) w6).drew
      have H6 := Lib.hid (And.intro (h5.new (hu6.trans hud)) (((HR.out.2).trans d5).trans (h5.didNew (hu6.trans hud))))
      have HW6 := Lib.hid (And.intro hw6 hgb)
      have hgo : own5 gb = 0 := h5.far _ (by omega)
      have HG := Lib.hid hgo
      have heq : ∀ W : World, (binOp .eql 54 (.agg (bkC y).toArray) (.agg (bkC (fillB 3)).toArray)).run Tryz.prog W = .ok (.bool true) W := by
        intro W; rw [run_eql_bk _ _ hyl (fillB_len 3), hy3]; simp
      have hsi := sizeBk y hyl
      have hut := Tryz.underlying54
      clear h5 d5 hu6 g6 hud hw6 hgb hy hcd hr hy3 HR hgo
      generalize hF3 : fillB 3 = F3 at *
      replace hF3 := Lib.hid hF3
      go_upto_region 11 with (first
        | (refine wpList_store_new rfl _ _ _ rfl _ _ (bkC y) rfl rfl (by rw [bkC_len, hyl]; rfl) hsi (bkC_one y) ?_)
        | fail)
      rw [← HW6.out.1, ← HW6.out.2]
      refine wp_region_held_drew (S := fun W => W.rangeAt gb 0 (bkC y)) (by kernel_rfl) (by rw [World.rangeAt_drew]; exact r6) (fun hHeld => ?_)
      refine Wl.i [0, 1, 2, 3, 4, 5, 6] ?_; iterate 7 refine Wl.t hHeld ?_
      refine Wl.o ?_
      refine Wl.l 7 (fun w h => h) hut hsi hHeld ?_
      refine Wl.r 8 (fun K hK => ?_)
      go_simp
      refine (fill_any 3 (by omega) _).mono ?_
      rintro e w7 ⟨rfl, hb7⟩
      rw [hF3.out]
      have hu7 : Upd (fun _ => False) w6.drew w7 := Upd.of_below hb7
      have r7 := hu7.range (show w6.drew.rangeAt gb 0 (bkC y) from by rw [World.rangeAt_drew]; exact r6) (fun h => h)
      have HC := Lib.hid (ca_ccount (H6.out.1.new hu7) 2)
      rw [awS_st] at HC
      have hlo : gb < w7.heap.size := World.block_lt_of_cell? w7 _ (r7 0 _ (by rw [List.getElem?_eq_getElem (by rw [bkC_len]; omega)]))
      have HU7 := Lib.hid hu7
      clear hb7 hu7
      refine hK.out _ _ (r7) (fun hH1 => ?_)
      clear hK K
      refine Wl.i [9, 10, 11, 12] ?_; iterate 4 refine Wl.t hH1 ?_
      refine Wl.o ?_
      refine Wl.r 13 (fun K hK => ?_)
      go_simp
      refine HC.out.mono ?_
      rintro e w8 ⟨rfl, own8, h8, d8⟩
      have r8 := d8.upd.range r7 (fun h => h.1 HG.out)
      have H8 := Lib.hid (And.intro h8 ((H6.out.2.trans (H6.out.1.didNew HU7.out)).trans d8))
      clear h8 d8
      refine hK.out _ _ (r8) (fun hH2 => ?_)
      clear hK K
      refine Wl.i [14, 15] ?_; iterate 2 refine Wl.t hH2 ?_
      refine Wl.o ?_
      refine Wl.r 16 (fun K hK => ?_)
      go_simp
      refine hK.out _ _ (r8) (fun _ => ?_)
      clear hK K
      refine Wl.d ?_
      go_wp2
      go_ret
      exact ⟨rfl, H8.out.2.below H2.out.2.1 H2.out.2.2⟩
theorem flat_row {α : Type} {enc : α → List Value} {m : Nat} (hl : ∀ x, (enc x).length = m) {w : World} {g o : Nat} {L : List α} (h : ∀ j u, (L.flatMap enc)[j]? = some u → w.cell? ⟨g, o + j, none⟩ = some u) {k : Nat} (hk : k < L.length) : w.rangeAt g (o + k * m) (enc L[k]) := by
  intro j v hj
  have hj' : j < m := by rw [← hl L[k]]; exact (List.getElem?_eq_some_iff.1 hj).1
  rw [Nat.add_assoc]
  refine h _ v ?_
  have : ∀ (L : List α) (k : Nat) (hk : k < L.length), (L.flatMap enc)[k * m + j]? = (enc L[k])[j]? := by
    intro L
    induction L with
    | nil => intro k hk; simp at hk
    | cons x L ih =>
      intro k hk
      rw [List.flatMap_cons]
      cases k with
      | zero => rw [Nat.zero_mul, Nat.zero_add, List.getElem?_append_left (by rw [hl]; exact hj')]; rfl
      | succ k =>
        have e : (k + 1) * m + j = m + (k * m + j) := by rw [Nat.succ_mul]; omega
        rw [e, List.getElem?_append_right (by rw [hl]; omega), hl, Nat.add_sub_cancel_left]
        exact ih k (by simpa using hk)
  rw [this L k hk]; exact hj
set_option maxRecDepth 100000 in
theorem run_eqIn_ent (w : World) (d : Nat) (a b : Int) (c : Bool) (e : Int) : (Op.equalIn (d + 1 + 1) 37 (.agg #[.int .i64 a, .int .i64 b, .bool c, .int .i64 e]) (.agg #[.int .i64 a, .int .i64 b, .bool c, .int .i64 e])).run Tryz.prog w = .ok true w := by
  have hu := Tryz.underlying37
  obtain ⟨fs, hfs⟩ : ∃ fs, Tryz.prog.underlying 37 = some (.struct fs) := ⟨_, hu⟩
  have hF : Tryz.prog.fieldsOf 37 = fs := by unfold Program.fieldsOf; rw [hfs]
  have hfe := hfs.symm.trans hu
  injection hfe with hfe
  injection hfe with hfe
  have h2 := fun (x y : Bool) => run_equalIn_bool (P := Tryz.prog) w d 4 x y Tryz.underlying4
  rw [run_equalIn_struct w (d + 1) _ _ _ (by rw [hF]; exact hfs) (by kernel_rfl), hF, hfe]
  simp [Op.eqFields, go_sem, h2, Result.andThen]
theorem run_neq_ent (w : World) (a b : Int) (c : Bool) (e : Int) : (binOp .neq 37 (.agg #[.int .i64 a, .int .i64 b, .bool c, .int .i64 e]) (.agg #[.int .i64 a, .int .i64 b, .bool c, .int .i64 e])).run Tryz.prog w = .ok (.bool false) w := by
  simp only [binOp]
  simp [show Op.equal 37 (.agg #[.int .i64 a, .int .i64 b, .bool c, .int .i64 e]) (.agg #[.int .i64 a, .int .i64 b, .bool c, .int .i64 e]) = Op.equalIn (9998 + 1 + 1) 37 (.agg #[.int .i64 a, .int .i64 b, .bool c, .int .i64 e]) (.agg #[.int .i64 a, .int .i64 b, .bool c, .int .i64 e]) from rfl, run_eqIn_ent w 9998 a b c e]
end Go.Proofs.YtfhfbpmlnjdfoaaGreatDoor
