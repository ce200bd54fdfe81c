/- A cache: writes keep what blocks are; Clean; a step of writing back. The plain laws. A cache: Clean. A cache: its superblock, its places; the iterator over its dirty blocks. -/
import Derived.Test.YtnadilfobmgebaaGreatDoorH29
import Derived.Test.YtnadilfobmgebaaGreatDoorH20
import Derived.Test.YtnadilfobmgebaaGreatDoorH28
namespace Go.Proofs.YtnadilfobmgebaaGreatDoor
open Go Go.RowKit
section
variable {n : CaN} {a b : CaS} {v : Nat → Bk} {N : Nat}
theorem CaS.Val.wrote (h : a.Val n v) (hP : a.NoP) (ht : a.Tie n none) (h1 : 1 ≤ a.next) (hj : 4 ≤ n.jo) (k : Int) (x : Bk) (md : Int) (hk : 0 ≤ k ∧ k < (n.bl : Int)) (hm : 0 ≤ md ∧ md < 3) : (a.wrote n k x md).2 = 0 ∧ (a.wrote n k x md).1.NoP ∧ (a.wrote n k x md).1.Val n (updV v k.toNat x) := by
  unfold CaS.wrote
  rw [if_neg (by omega), if_neg (by omega)]
  split
  · exact h.backed hP ht h1 hj _ (by omega) x
  split
  · exact h.thru hP ht h1 hj _ (by omega) x
  · exact h.bypassed hP _ (by omega) x
theorem CaS.wrote_bad (k : Int) (x : Bk) (md : Int) (hk : ¬ (0 ≤ k ∧ k < (n.bl : Int)) ∨ ¬ (0 ≤ md ∧ md < 3)) : (a.wrote n k x md).2 ≠ 0 ∧ (a.wrote n k x md).1 = a := by
  unfold CaS.wrote
  by_cases h0 : k < 0 ∨ (n.bl : Int) ≤ k
  · rw [if_pos h0]; exact ⟨show (10 : Int) ≠ 0 by decide, rfl⟩
  · rw [if_neg h0, if_pos (by omega)]; exact ⟨show (1 : Int) ≠ 0 by decide, rfl⟩
theorem CaS.Val.gone (h : a.Val n v) (hP : a.NoP) (k : Int) (hk : 0 ≤ k ∧ k < (n.bl : Int)) : (a.gone n k).2 = 0 ∧ (a.gone n k).1.NoP ∧ (a.gone n k).1.Val n (updV v k.toNat zB) := by
  unfold CaS.gone
  rw [if_neg (by omega)]
  exact h.bypassed hP _ (by omega) zB
theorem CaS.gone_bad (k : Int) (hk : ¬ (0 ≤ k ∧ k < (n.bl : Int))) : (a.gone n k).2 ≠ 0 ∧ (a.gone n k).1 = a := by
  unfold CaS.gone
  rw [if_pos (by omega)]
  exact ⟨show (10 : Int) ≠ 0 by decide, rfl⟩
def CaS.cleaned (n : CaN) (a : CaS) (k : Int) : CaS × Int :=
  if getC a.ps k ≠ 0 then (a, getC a.ps k)
  else if (a.roomed n).2 ≠ 0 then ((a.roomed n).1, (a.roomed n).2)
  else ({ (a.roomed n).1.noted n 0 k (getV a.ps k).1 false ((a.sums k).getD 0) with ps := cleanL a.ps k }, 0)
theorem CaS.Fit.noted (h : a.Fit N) (h1 : 1 ≤ a.next) (op block slot : Int) (d : Bool) (sum : Int) (ps : List (Int × Bool)) : CaS.Fit { a.noted n op block slot d sum with ps := ps } (N + 1) :=
  { h.mono (Nat.le_succ N) with
    nx := by have := h.nx; show a.next + 1 ≤ N + 1; omega
    w1 := fun q hq => by
      rcases List.mem_append.1 hq with hq | hq
      · exact h.w1 q hq
      · simp at hq; subst hq; exact h1 }
theorem CaS.Fit.cleaned (h : a.Fit N) (h1 : 1 ≤ a.next) (k : Int) : (a.cleaned n k).1.Fit (N + n.pa + 1) := by
  have hr := h.roomed (n := n)
  have hn := (a.roomed_next n).1
  unfold CaS.cleaned
  split
  · exact h.mono (by omega)
  split
  · exact hr.mono (by omega)
  · exact hr.noted (by omega) _ _ _ _ _ _
theorem CaS.cleaned_next (n : CaN) (a : CaS) (k : Int) : a.next ≤ (a.cleaned n k).1.next := by
  have hn := (a.roomed_next n).1
  unfold CaS.cleaned
  split
  · exact Nat.le_refl _
  split
  · show a.next ≤ (a.roomed n).1.next; omega
  · show a.next ≤ (a.roomed n).1.next + 1; omega
theorem CaS.Tie.cleaned {o : Option Nat} (h : a.Tie n o) (k : Int) : (a.cleaned n k).1.Tie n o := by
  have hr := CaS.Tie.roomed h
  have hn := (a.roomed_next n).2
  unfold CaS.cleaned
  split
  · exact h
  split
  · exact hr
  · have := TieL.clean hr k
    rw [hn] at this
    exact this
theorem cleanL_plc {ps : List (Int × Bool)} {m : Nat} (hm : m < ps.length) (hn : plc ps m ≠ (-1, false)) (j : Nat) : plc (cleanL ps (m : Int)) j = if j = m then ((plc ps m).1, false) else plc ps j := by
  have hg : getC ps (m : Int) = 0 := getC_iff.2 ⟨m, hm, rfl, hn⟩
  unfold cleanL
  rw [if_pos hg, getV_at hm hn, Int.toNat_natCast, plc_set _ _ _ _ hm]
theorem cleanL_len (ps : List (Int × Bool)) (k : Int) : (cleanL ps k).length = ps.length := by
  unfold cleanL
  split
  · rw [List.length_set]
  · rfl
theorem CaS.Val.cleaned (h : a.Val n v) (_ht : a.Tie n none) {k : Nat} (hk : k < n.bl) (hn : plc a.ps k ≠ (-1, false)) (hc : curB a.bF a.bO k = v k) :
    (a.cleaned n (k : Int)).1.Val n v ∧ ((a.cleaned n (k : Int)).2 = 0 → ∀ j, plc (a.cleaned n (k : Int)).1.ps j = if j = k then ((plc a.ps k).1, false) else plc a.ps j) ∧ ((a.cleaned n (k : Int)).2 ≠ 0 → (a.cleaned n (k : Int)).1.ps = a.ps) := by
  have hkl : k < a.ps.length := by rw [h.pl]; exact hk
  have hg : getC a.ps (k : Int) = 0 := getC_iff.2 ⟨k, hkl, rfl, hn⟩
  have hs := a.same_roomed n
  have hr := h.same hs
  unfold CaS.cleaned
  rw [if_neg (fun e => e hg)]
  split
  · next hc0 => exact ⟨hr, fun e => absurd e hc0, fun _ => hs.ps⟩
  · have hp := cleanL_plc hkl hn
    refine ⟨⟨hr.dl, hr.bl, by show (cleanL a.ps (k : Int)).length = n.bl; rw [cleanL_len]; exact h.pl, fun j hj hd => ?_, fun j hj hd => ?_⟩, fun _ => hp, fun e => absurd rfl e⟩
    · replace hd : (plc (cleanL a.ps (k : Int)) j).2 = false := hd
      show curB (a.roomed n).1.bF (a.roomed n).1.bO j = v j
      rw [hs.b]
      rw [hp] at hd
      split at hd
      · next e => subst e; exact hc
      · exact h.bk j hj hd
    · replace hd : plc (cleanL a.ps (k : Int)) j ≠ (-1, false) := hd
      show curB (a.roomed n).1.dF (a.roomed n).1.dO (n.slot0 + (plc (cleanL a.ps (k : Int)) j).1.toNat) = v j ∧ (a.roomed n).1.sums (j : Int) = some (crcC (v j))
      rw [hs.d _ (Nat.le_add_right _ _), hs.sums]
      rw [hp] at hd ⊢
      split
      · next e => subst e; exact h.ins j hj hn
      · next e => rw [if_neg e] at hd; exact h.ins j hj hd
theorem CaS.NoP.cleaned (h : a.NoP) {k : Nat} (hk : k < a.ps.length) (hn : plc a.ps k ≠ (-1, false)) : (a.cleaned n (k : Int)).2 = 0 := by
  have hg : getC a.ps (k : Int) = 0 := getC_iff.2 ⟨k, hk, rfl, hn⟩
  unfold CaS.cleaned
  rw [if_neg (fun e => e hg), if_neg (fun e => e h.roomed)]
theorem CaS.cleaned_dev (n : CaN) (a : CaS) (k : Int) : ((a.cleaned n k).1.bF = a.bF ∧ (a.cleaned n k).1.bO = a.bO ∧ (a.cleaned n k).1.dP = a.dP ∧ (a.cleaned n k).1.bP = a.bP) ∨ ((a.cleaned n k).1.bF = (a.roomed n).1.bF ∧ (a.cleaned n k).1.bO = (a.roomed n).1.bO ∧ (a.cleaned n k).1.dP = (a.roomed n).1.dP ∧ (a.cleaned n k).1.bP = (a.roomed n).1.bP) := by
  unfold CaS.cleaned
  split
  · exact .inl ⟨rfl, rfl, rfl, rfl⟩
  split
  · exact .inr ⟨rfl, rfl, rfl, rfl⟩
  · exact .inr ⟨rfl, rfl, rfl, rfl⟩
theorem flushR_still (F : List Bk) (P : List Int) : (flushR F [] P).F = F ∧ (flushR F [] P).O = [] := by
  unfold flushR
  repeat' split
  all_goals exact ⟨rfl, rfl⟩
theorem CaS.roomed_still (n : CaN) (h : a.bO = []) : (a.roomed n).1.bF = a.bF ∧ (a.roomed n).1.bO = [] := by
  have hf := flushR_still a.bF a.bP
  rw [← h] at hf
  unfold CaS.roomed
  split
  · exact ⟨rfl, h⟩
  · unfold CaS.ckpt
    repeat' split
    all_goals exact ⟨hf.1, hf.2.trans h⟩
theorem CaS.cleaned_still (k : Int) (h : a.bO = []) : (a.cleaned n k).1.bF = a.bF ∧ (a.cleaned n k).1.bO = [] := by
  have hr := CaS.roomed_still n h
  rcases CaS.cleaned_dev n a k with ⟨h1, h2, -⟩ | ⟨h1, h2, -⟩
  · rw [h1, h2]; exact ⟨rfl, h⟩
  · rw [h1, h2]; exact hr
theorem CaS.cleaned_pl (k : Int) (h1 : Pl a.dP) (h2 : Pl a.bP) : Pl (a.cleaned n k).1.dP ∧ Pl (a.cleaned n k).1.bP := by
  have hs := a.same_roomed n
  rcases CaS.cleaned_dev n a k with ⟨-, -, e1, e2⟩ | ⟨-, -, e1, e2⟩
  · rw [e1, e2]; exact ⟨h1, h2⟩
  · rw [e1, e2]; exact ⟨hs.pd h1, hs.pb h2⟩
theorem CaS.cleaned_no (k : Int) (h : a.NoP) : (a.cleaned n k).1.NoP := by
  have hs := (a.same_roomed n).noP h
  rcases CaS.cleaned_dev n a k with ⟨-, -, e1, e2⟩ | ⟨-, -, e1, e2⟩
  · exact ⟨e1.trans h.1, e2.trans h.2⟩
  · exact ⟨e1.trans hs.1, e2.trans hs.2⟩
theorem CaS.Val.readB (h : a.Val n v) (h1 : Pl a.dP) (h2 : Pl a.bP) {k : Nat} (hk : k < n.bl) :
    CaS.Same n a (a.readB n (k : Int)).1 ∧ (a.readB n (k : Int)).1.bO = a.bO ∧ (a.readB n (k : Int)).1.bF = a.bF ∧ (a.readB n (k : Int)).1.dF = a.dF ∧ (a.readB n (k : Int)).1.dO = a.dO ∧ ((a.readB n (k : Int)).2.2 = 0 → (a.readB n (k : Int)).2.1 = v k) ∧ (a.NoP → (a.readB n (k : Int)).2.2 = 0 ∧ (a.readB n (k : Int)).1 = a) := by
  have hkl : k < a.ps.length := by rw [h.pl]; exact hk
  have hsd : CaS.Same n a { a with dP := a.dP.tail } := { CaS.Same.refl n a with pd := Pl.tail, nd := fun e => by show a.dP.tail = []; rw [e]; rfl }
  have hsb : CaS.Same n a { a with bP := a.bP.tail } := { CaS.Same.refl n a with pb := Pl.tail, nb := fun e => by show a.bP.tail = []; rw [e]; rfl }
  have hfd : a.dP = [] → { a with dP := a.dP.tail } = a := fun e => by cases a; simp only at e; subst e; rfl
  have hfb : a.bP = [] → { a with bP := a.bP.tail } = a := fun e => by cases a; simp only at e; subst e; rfl
  unfold CaS.readB
  by_cases hn : plc a.ps k = (-1, false)
  · have hg : getC a.ps (k : Int) = 14 := by
      unfold getC
      rw [if_neg (by omega), Int.toNat_natCast, if_pos hn]
    rw [if_pos hg]
    refine ⟨hsb, rfl, rfl, rfl, rfl, fun e => ?_, fun hP => ⟨?_, hfb hP.2⟩⟩
    · show (if fate a.bP = 1 then zB else curB a.bF a.bO (k : Int).toNat) = v k
      rw [if_neg (fun e1 => by
        replace e : (if fate a.bP = 1 then (19 : Int) else 0) = 0 := e
        rw [if_pos e1] at e; cases e), Int.toNat_natCast]
      exact h.bk k hk (by rw [hn])
    · show (if fate a.bP = 1 then (19 : Int) else 0) = 0
      rw [hP.2]; rfl
  · have hg : getC a.ps (k : Int) = 0 := getC_iff.2 ⟨k, hkl, rfl, hn⟩
    obtain ⟨i1, i2⟩ := h.ins k hk hn
    rw [if_neg (by rw [hg]; decide), if_neg (fun e => e hg), getV_at hkl hn]
    unfold CaS.readS
    split
    · next hf => exact ⟨hsd, rfl, rfl, rfl, rfl, fun e => absurd (show (19 : Int) = 0 from e) (by decide), fun hP => by rw [hP.1] at hf; exact absurd hf (by decide)⟩
    · rw [if_pos (by rw [i1, i2]; rfl)]
      exact ⟨hsd, rfl, rfl, rfl, rfl, fun _ => i1, fun hP => ⟨rfl, hfd hP.1⟩⟩
def dirtL (ps : List (Int × Bool)) : List Nat := (List.range ps.length).filter fun k => (plc ps k).2
theorem dirtL_mem {ps : List (Int × Bool)} {k : Nat} : k ∈ dirtL ps ↔ k < ps.length ∧ (plc ps k).2 = true := by simp [dirtL]
theorem dirtL_nodup (ps : List (Int × Bool)) : (dirtL ps).Nodup := List.nodup_range.filter _
theorem dirtL_len (ps : List (Int × Bool)) : (dirtL ps).length ≤ ps.length := by
  have := List.length_filter_le (fun k => (plc ps k).2) (List.range ps.length)
  rwa [List.length_range] at this
theorem dirtL_in {ps : List (Int × Bool)} {k : Nat} (h : k ∈ dirtL ps) : plc ps k ≠ (-1, false) := fun e => by
  have := (dirtL_mem.1 h).2
  rw [e] at this
  cases this
theorem dirtL_clean {ps qs : List (Int × Bool)} {k : Nat} (hl : qs.length = ps.length) (hp : ∀ j, plc qs j = if j = k then ((plc ps k).1, false) else plc ps j) : dirtL qs = (dirtL ps).filter (· ≠ k) := by
  unfold dirtL
  rw [List.filter_filter, hl]
  refine List.filter_congr fun j _ => ?_
  rw [hp]
  by_cases e : j = k
  · subst e; simp
  · simp [e]
def CaS.backs (n : CaN) : List Nat → CaS → CaS × Int
  | [], a => (a, 0)
  | k :: l, a =>
    if (a.readB n (k : Int)).2.2 ≠ 0 then ((a.readB n (k : Int)).1, (a.readB n (k : Int)).2.2)
    else if (writeR (a.readB n (k : Int)).1.bF (a.readB n (k : Int)).1.bO (a.readB n (k : Int)).1.bP k (a.readB n (k : Int)).2.1).cd ≠ 0 then ((a.readB n (k : Int)).1.bdev (writeR (a.readB n (k : Int)).1.bF (a.readB n (k : Int)).1.bO (a.readB n (k : Int)).1.bP k (a.readB n (k : Int)).2.1), (writeR (a.readB n (k : Int)).1.bF (a.readB n (k : Int)).1.bO (a.readB n (k : Int)).1.bP k (a.readB n (k : Int)).2.1).cd)
    else CaS.backs n l ((a.readB n (k : Int)).1.bdev (writeR (a.readB n (k : Int)).1.bF (a.readB n (k : Int)).1.bO (a.readB n (k : Int)).1.bP k (a.readB n (k : Int)).2.1))
def CaS.cleans (n : CaN) : List Nat → Nat → CaS → CaS × Nat × Int
  | [], i, a => (a, i, 0)
  | k :: l, i, a => if (a.cleaned n (k : Int)).2 ≠ 0 then ((a.cleaned n (k : Int)).1, i, (a.cleaned n (k : Int)).2) else CaS.cleans n l (i + 1) (a.cleaned n (k : Int)).1
def CaS.stepL (n : CaN) (l : List Nat) (a : CaS) : CaS × Nat × Int :=
  if (CaS.backs n l a).2 ≠ 0 then ((CaS.backs n l a).1, 0, (CaS.backs n l a).2)
  else if l = [] then ((CaS.backs n l a).1, 0, 0)
  else if (flushR (CaS.backs n l a).1.bF (CaS.backs n l a).1.bO (CaS.backs n l a).1.bP).cd ≠ 0 then ((CaS.backs n l a).1.fb, 0, (flushR (CaS.backs n l a).1.bF (CaS.backs n l a).1.bO (CaS.backs n l a).1.bP).cd)
  else CaS.cleans n l 0 (CaS.backs n l a).1.fb
def CaS.step (n : CaN) (a : CaS) (m : Nat) : CaS × Nat × Int := CaS.stepL n ((dirtL a.ps).take m) a
theorem writeR_pl {F : List Bk} {O : List (Nat × Bk)} {P : List Int} (h : Pl P) (s : Nat) (y : Bk) : ((writeR F O P s y).cd = 0 → (writeR F O P s y).O = O ++ [(s, y)]) ∧ ((writeR F O P s y).cd ≠ 0 → (writeR F O P s y).O = O) ∧ Pl (writeR F O P s y).P := by
  unfold writeR
  rcases h.fate with e | e
  · rw [if_neg (by rw [e]; decide), if_pos e]
    exact ⟨fun _ => rfl, fun x => absurd rfl x, h.tail⟩
  · rw [if_pos e]
    exact ⟨fun x => absurd (show (20 : Int) = 0 from x) (by decide), fun _ => rfl, h.tail⟩
structure CaS.Stays (n : CaN) (a b : CaS) (v : Nat → Bk) : Prop where
  val : b.Val n v
  tie : b.Tie n none
  nx : 1 ≤ b.next
  pd : Pl b.dP
  pb : Pl b.bP
  no : a.NoP → b.NoP
theorem CaS.Val.backs (ht : a.Tie n none) (hx : 1 ≤ a.next) : ∀ (l : List Nat) {a0 : CaS}, a0.ps = a.ps → CaS.Stays n a a0 v → (∀ k ∈ l, k < n.bl ∧ (plc a.ps k).2 = true) → ∀ done : List Nat, (∀ k ∈ done, k < n.bl ∧ curB a0.bF a0.bO k = v k) →
    CaS.Stays n a (CaS.backs n l a0).1 v ∧ (CaS.backs n l a0).1.ps = a.ps ∧ ((CaS.backs n l a0).2 = 0 → ∀ k, k ∈ done ∨ k ∈ l → curB (CaS.backs n l a0).1.bF (CaS.backs n l a0).1.bO k = v k) ∧ (a.NoP → (CaS.backs n l a0).2 = 0)
  | [], a0, hps, h, _, done, hd => ⟨h, hps, fun _ k hk => (by rcases hk with hk | hk; exact (hd k hk).2; cases hk), fun _ => rfl⟩
  | k :: l, a0, hps, h, hl, done, hd => by
    obtain ⟨hk, hdk⟩ := hl k (by simp)
    obtain ⟨r1, r2, r3, r4, r5, r6, r7⟩ := h.val.readB h.pd h.pb hk
    have hv1 := h.val.same r1
    have hr8 : (a0.readB n (k : Int)).1.Tie n none ∧ 1 ≤ (a0.readB n (k : Int)).1.next := by
      unfold CaS.readB CaS.readS
      repeat' split
      all_goals exact ⟨h.tie, h.nx⟩
    have hS : CaS.Stays n a (a0.readB n (k : Int)).1 v := ⟨hv1, hr8.1, hr8.2, r1.pd h.pd, r1.pb h.pb, fun hP => r1.noP (h.no hP)⟩
    have hps1 : (a0.readB n (k : Int)).1.ps = a.ps := r1.ps.trans hps
    rw [← r2, ← r3] at hd
    simp only [CaS.backs]
    generalize a0.readB n (k : Int) = r at *
    obtain ⟨b, y, cd⟩ := r
    simp only at r6 r7 hS hps1 hv1 hr8 r1 hd ⊢
    split
    · next hc => exact ⟨hS, hps1, fun e => absurd e hc, fun hP => absurd (r7 (h.no hP)).1 hc⟩
    · next hc =>
      have hy := r6 (Decidable.of_not_not hc)
      subst hy
      have hb2 : (b.bdev (writeR b.bF b.bO b.bP k (v k))).Val n v := by
        have hF := writeR_F b.bF b.bO b.bP k (v k)
        refine ⟨hv1.dl, by show (writeR b.bF b.bO b.bP k (v k)).F.length = n.bl; rw [hF]; exact hv1.bl, hv1.pl, fun j hj hq => ?_, hv1.ins⟩
        have hne : j ≠ k := fun e => by
          subst e
          replace hq : (plc b.ps j).2 = false := hq
          rw [hps1, hdk] at hq
          cases hq
        show curB (writeR b.bF b.bO b.bP k (v k)).F (writeR b.bF b.bO b.bP k (v k)).O j = v j
        rw [hF]
        by_cases hw : (writeR b.bF b.bO b.bP k (v k)).cd = 0
        · rw [(writeR_pl hS.pb k (v k)).1 hw, curB_snoc, if_neg (by omega)]
          exact hv1.bk j hj hq
        · rw [(writeR_pl hS.pb k (v k)).2.1 hw]
          exact hv1.bk j hj hq
      have hS2 : CaS.Stays n a (b.bdev (writeR b.bF b.bO b.bP k (v k))) v := ⟨hb2, hr8.1, hr8.2, hS.pd, (writeR_pl hS.pb k (v k)).2.2, fun hP => ⟨(hS.no hP).1, by show (writeR b.bF b.bO b.bP k (v k)).P = []; rw [(hS.no hP).2]; rfl⟩⟩
      split
      · next hw => exact ⟨hS2, hps1, fun e => absurd e hw, fun hP => by rw [(hS.no hP).2] at hw; exact absurd rfl hw⟩
      · next hw =>
        have hw := Decidable.of_not_not hw
        have hcur : ∀ j, curB (writeR b.bF b.bO b.bP k (v k)).F (writeR b.bF b.bO b.bP k (v k)).O j = if k = j ∧ k < b.bF.length then v k else curB b.bF b.bO j := fun j => by
          rw [writeR_F, (writeR_pl hS.pb k (v k)).1 hw, curB_snoc]
        have ih := CaS.Val.backs ht hx l (a0 := b.bdev (writeR b.bF b.bO b.bP k (v k))) hps1 hS2 (fun j hj => hl j (by simp [hj])) (k :: done) (fun j hj => by
          show j < n.bl ∧ curB (writeR b.bF b.bO b.bP k (v k)).F (writeR b.bF b.bO b.bP k (v k)).O j = v j
          rw [hcur]
          split
          · next e => rw [← e.1]; exact ⟨hk, rfl⟩
          · next e =>
            rcases List.mem_cons.1 hj with rfl | hj
            · exact absurd ⟨rfl, by rw [hv1.bl]; exact hk⟩ e
            · exact hd j hj)
        refine ⟨ih.1, ih.2.1, fun e j hj => ih.2.2.1 e j ?_, ih.2.2.2⟩
        rcases hj with hj | hj
        · exact .inl (by simp [hj])
        · rcases List.mem_cons.1 hj with rfl | hj
          · exact .inl (by simp)
          · exact .inr hj
theorem CaS.Val.cleans : ∀ (l : List Nat) (i : Nat) {a0 : CaS}, CaS.Stays n a a0 v → a0.bO = [] → l.Nodup → (∀ k ∈ l, k ∈ dirtL a0.ps ∧ a0.bF.getD k zB = v k) →
    CaS.Stays n a (CaS.cleans n l i a0).1 v ∧ (CaS.cleans n l i a0).1.bO = [] ∧ (CaS.cleans n l i a0).1.bF = a0.bF ∧ i ≤ (CaS.cleans n l i a0).2.1 ∧ (CaS.cleans n l i a0).2.1 ≤ i + l.length ∧ ((CaS.cleans n l i a0).2.2 = 0 ↔ (CaS.cleans n l i a0).2.1 = i + l.length) ∧ (a.NoP → (CaS.cleans n l i a0).2.2 = 0) ∧
      dirtL (CaS.cleans n l i a0).1.ps = (dirtL a0.ps).filter fun k => decide (k ∉ l.take ((CaS.cleans n l i a0).2.1 - i))
  | [], i, a0, h, hO, _, _ => by
    refine ⟨h, hO, rfl, Nat.le_refl _, Nat.le_refl _, ⟨fun _ => rfl, fun _ => rfl⟩, fun _ => rfl, ?_⟩
    show dirtL a0.ps = _
    rw [List.filter_eq_self.2]
    intro k _
    simp
  | k :: l, i, a0, h, hO, hnd, hl => by
    obtain ⟨hkd, hkb⟩ := hl k (by simp)
    obtain ⟨hkl, hk2⟩ := dirtL_mem.1 hkd
    have hk : k < n.bl := by rw [← h.val.pl]; exact hkl
    have hn := dirtL_in hkd
    have hcur : curB a0.bF a0.bO k = v k := by rw [hO]; exact hkb
    obtain ⟨c1, c2, c3⟩ := h.val.cleaned h.tie hk hn hcur
    obtain ⟨s1, s2⟩ := CaS.cleaned_still (n := n) (k : Int) hO
    obtain ⟨p1, p2⟩ := CaS.cleaned_pl (n := n) (k : Int) h.pd h.pb
    have hS : CaS.Stays n a (a0.cleaned n (k : Int)).1 v := ⟨c1, CaS.Tie.cleaned h.tie _, Nat.le_trans h.nx (CaS.cleaned_next n a0 _), p1, p2, fun hP => CaS.cleaned_no _ (h.no hP)⟩
    have hz : a.NoP → (a0.cleaned n (k : Int)).2 = 0 := fun hP => (h.no hP).cleaned hkl hn
    simp only [CaS.cleans]
    split
    · next hc =>
      refine ⟨hS, s2, s1, Nat.le_refl _, by simp, ⟨fun e => absurd e hc, fun e => by simp at e⟩, fun hP => absurd (hz hP) hc, ?_⟩
      rw [c3 hc, Nat.sub_self, List.filter_eq_self.2]
      intro j _
      simp
    · next hc =>
      have hc := Decidable.of_not_not hc
      have hdq := dirtL_clean (by rw [c1.pl, h.val.pl]) (c2 hc)
      have ih := CaS.Val.cleans l (i + 1) hS s2 (List.nodup_cons.1 hnd).2 (fun j hj => by
        obtain ⟨d1, d2⟩ := hl j (by simp [hj])
        refine ⟨?_, by rw [s1]; exact d2⟩
        rw [hdq, List.mem_filter]
        exact ⟨d1, by simpa using fun e : j = k => (List.nodup_cons.1 hnd).1 (e ▸ hj)⟩)
      obtain ⟨i1, i2, i3, i4, i5, i6, i7, i8⟩ := ih
      generalize CaS.cleans n l (i + 1) (a0.cleaned n (k : Int)).1 = R at *
      refine ⟨i1, i2, i3.trans s1, by omega, by rw [List.length_cons]; omega, by rw [List.length_cons, i6]; omega, i7, ?_⟩
      rw [i8, hdq, List.filter_filter]
      refine List.filter_congr fun j _ => ?_
      have e : R.2.1 - i = (R.2.1 - (i + 1)) + 1 := by omega
      rw [e, List.take_succ_cons]
      by_cases hjk : j = k <;> by_cases hjt : j ∈ l.take (R.2.1 - (i + 1)) <;> simp [hjk, hjt] <;> (try subst hjk) <;> simp_all
theorem filter_drop {l : List Nat} (h : l.Nodup) (m : Nat) : (l.filter fun k => decide (k ∉ l.take m)) = l.drop m := by
  conv => lhs; rw [← List.take_append_drop m l]
  rw [List.filter_append, List.take_append_drop]
  have hd : (l.take m ++ l.drop m).Nodup := by rw [List.take_append_drop]; exact h
  rw [List.filter_eq_nil_iff.2 (by intro k hk; simpa using hk), List.filter_eq_self.2, List.nil_append]
  intro k hk
  rw [decide_eq_true_iff]
  exact fun ht => (List.nodup_append.1 hd).2.2 k ht k hk rfl
structure CaS.StepOut (n : CaN) (a : CaS) (v : Nat → Bk) (m : Nat) (r : CaS × Nat × Int) : Prop where
  st : CaS.Stays n a r.1 v
  le : r.2.1 ≤ min m (dirtL a.ps).length
  ok : r.2.2 = 0 ↔ r.2.1 = min m (dirtL a.ps).length
  no : a.NoP → r.2.2 = 0
  dirt : dirtL r.1.ps = (dirtL a.ps).drop r.2.1
  firm : ∀ k ∈ (dirtL a.ps).take r.2.1, r.1.bF.getD k zB = v k
theorem CaS.Val.step (h : a.Val n v) (ht : a.Tie n none) (hx : 1 ≤ a.next) (h1 : Pl a.dP) (h2 : Pl a.bP) (m : Nat) (_hm : 1 ≤ m) : CaS.StepOut n a v m (a.step n m) := by
  have hS : CaS.Stays n a a v := ⟨h, ht, hx, h1, h2, fun e => e⟩
  have hl : ∀ k ∈ (dirtL a.ps).take m, k < n.bl ∧ (plc a.ps k).2 = true := fun k hk => by
    have := dirtL_mem.1 (List.mem_of_mem_take hk)
    rw [h.pl] at this
    exact this
  obtain ⟨b1, b2, b3, b4⟩ := CaS.Val.backs ht hx _ rfl hS hl [] (fun k hk => by cases hk)
  have hlen : ((dirtL a.ps).take m).length = min m (dirtL a.ps).length := List.length_take
  have hnd : ((dirtL a.ps).take m).Nodup := (dirtL_nodup a.ps).sublist (List.take_sublist _ _)
  have htt : ∀ i, i ≤ ((dirtL a.ps).take m).length → ((dirtL a.ps).take m).take i = (dirtL a.ps).take i := fun i hi => by
    rw [List.take_take, Nat.min_eq_left]
    omega
  have hB0 : (dirtL a.ps).take m = [] → (CaS.backs n ((dirtL a.ps).take m) a).2 = 0 := fun e => by rw [e]; rfl
  unfold CaS.step CaS.stepL
  generalize hL : (dirtL a.ps).take m = L at *
  generalize CaS.backs n L a = B at *
  have hsf := CaS.same_fb n B.1
  have hSf : CaS.Stays n a B.1.fb v := ⟨b1.val.same hsf, b1.tie, b1.nx, b1.pd, hsf.pb b1.pb, fun hP => hsf.noP (b1.no hP)⟩
  have hne : L ≠ [] → ¬ 0 = min m (dirtL a.ps).length := fun e e2 => e (List.eq_nil_of_length_eq_zero (hlen.trans e2.symm))
  split
  · next hc => exact ⟨b1, Nat.zero_le _, ⟨fun e => absurd e hc, fun e => absurd e (hne (fun e => hc (hB0 e)))⟩, fun hP => absurd (b4 hP) hc, (by show dirtL B.1.ps = _; rw [b2]; rfl), fun k hk => by simp at hk⟩
  split
  · next hc hLn => exact ⟨b1, Nat.zero_le _, ⟨fun _ => (by show 0 = _; rw [← hlen, hLn]; rfl), fun _ => rfl⟩, fun _ => rfl, (by show dirtL B.1.ps = _; rw [b2]; rfl), fun k hk => by simp at hk⟩
  split
  · next hc hLn hf =>
    exact ⟨hSf, Nat.zero_le _, ⟨fun e => absurd e hf, fun e => absurd e (hne hLn)⟩, fun hP => (by rw [(b1.no hP).2] at hf; exact absurd rfl hf), (by show dirtL B.1.ps = _; rw [b2]; rfl), fun k hk => by simp at hk⟩
  · next hc hLn hf =>
    have hf := Decidable.of_not_not hf
    have hcur := b3 (Decidable.of_not_not hc)
    obtain ⟨hO, hF⟩ : B.1.fb.bO = [] ∧ B.1.fb.bF = flushF B.1.bF B.1.bO := by
      show (flushR B.1.bF B.1.bO B.1.bP).O = [] ∧ (flushR B.1.bF B.1.bO B.1.bP).F = _
      unfold flushR at hf ⊢
      rcases b1.pb.fate with e | e
      · rw [if_neg (by rw [e]; decide), if_pos e]; exact ⟨rfl, rfl⟩
      · rw [if_pos e] at hf; cases hf
    have hb : ∀ k ∈ L, B.1.fb.bF.getD k zB = v k := fun k hk => by
      rw [hF]
      exact hcur k (.inr hk)
    have hps : B.1.fb.ps = a.ps := b2
    obtain ⟨c1, c2, c3, c4, c5, c6, c7, c8⟩ := CaS.Val.cleans (a := a) L 0 hSf hO hnd (fun k hk => ⟨(by rw [hps]; exact List.mem_of_mem_take (by rw [hL]; exact hk)), hb k hk⟩)
    generalize CaS.cleans n L 0 B.1.fb = R at *
    rw [Nat.zero_add] at c5 c6
    rw [Nat.sub_zero, hps, htt _ c5, filter_drop (dirtL_nodup _)] at c8
    refine ⟨c1, by rw [← hlen]; exact c5, by rw [← hlen]; exact c6, c7, c8, fun k hk => ?_⟩
    rw [c3]
    refine hb k ?_
    rw [← htt _ c5] at hk
    exact List.mem_of_mem_take hk
end
section
variable {own : Nat → Nat} {w w' : World} {c : Nat} {n : CaN} {p : CaP} {a : CaS} {N : Nat}
set_option maxRecDepth 100000 in
set_option maxHeartbeats 1000000 in
theorem ca_tidy (h : CaAt own w c n p a) (hf : a.Fit N) (hN : N ≤ 50000) (ht : a.Tie n none) (k : Int) :
    Calls Tryz.prog 92 #[ptr c, .int .i64 k] w (CaOut own w c n p (a.cleaned n k).1 (.int .i64 (a.cleaned n k).2)) := by
  have HG := Lib.hid (ca_get h k)
  obtain ⟨-, -, -, -, d4, -, -, -, -⟩ := h.cells
  obtain ⟨R, hR⟩ : ∃ R, R = a.cleaned n k := ⟨_, rfl⟩
  rw [← hR]
  unfold CaS.cleaned at hR
  have H := Lib.hid (And.intro h (And.intro hf (And.intro hN ht)))
  clear h hf hN ht
  obtain ⟨pv, hpv⟩ : ∃ pv, pv = getV a.ps k := ⟨_, rfl⟩
  rw [← hpv] at HG hR
  obtain ⟨cd, hcd⟩ : ∃ cd, cd = getC a.ps k := ⟨_, rfl⟩
  rw [← hcd] at HG hR
  obtain ⟨s, d⟩ := pv
  replace hR := Lib.hid hR
  replace hpv := Lib.hid hpv
  replace hcd := Lib.hid hcd
  go_enter Tryz.func92, Tryz.ntmps92
  go_wp2_with fail
  refine HG.out.mono ?_
  rintro e w1 ⟨rfl, own1, h1, hd1⟩
  obtain ⟨w2, hw2⟩ : ∃ w2, w2 = w1.alloc (.cells #[.int .i64 s, .bool d] 108) := ⟨_, rfl⟩
  have hu2 : Upd (fun _ => False) w1 w2 := by rw [hw2]; exact (Upd.refl _ w1).alloc _
  have hg2 : w2.heap[w1.heap.size]? = some (.cells #[.int .i64 s, .bool d] 108 (0, 0)) := by rw [hw2]; exact heap_alloc_last w1 _ rfl
  obtain ⟨m, hm⟩ : ∃ m, m = w1.heap.size := ⟨_, rfl⟩
  have hm0 : own1 m = 0 := h1.far _ (by omega)
  rw [← hm] at hg2
  have h2 := h1.new hu2
  have d2 := hd1.trans (h1.didNew hu2)
  have H2 := Lib.hid (And.intro h2 (And.intro d2 (And.intro hg2 hm0)))
  have HM := Lib.hid (And.intro hm hw2)
  clear h1 hd1 hu2 hg2 hm0 h2 d2 HG d4 hm hw2
  by_cases hc : cd = 0
  rotate_left
  · have q0 : (cd == 0) = false := by simpa using hc
    go_wp2
    rw [← HM.out.2]
    go_ret
    have hr := hR.out
    rw [if_pos hc] at hr
    rw [hr]
    exact ⟨rfl, own1, H2.out.1, H2.out.2.1⟩
  subst hc
  have hr := hR.out
  rw [if_neg (fun e => e rfl)] at hr
  replace hR := Lib.hid hr
  clear hr
  have HC := Lib.hid (ca_room H2.out.1 H.out.2.1 H.out.2.2.1)
  have hrs := a.roomed_next n
  have hsm := (a.same_roomed n).sums
  have hrr : (a.roomed n).2 = 0 → (a.roomed n).1.next + 1 ≤ (a.roomed n).1.cov + n.jo := fun e => CaS.roomed_room e H.out.1.nx1 H.out.1.ok.j1
  generalize a.roomed n = r at *
  obtain ⟨b, cr⟩ := r
  simp only at hrs hsm hrr
  have HX := Lib.hid (And.intro hrs (And.intro hsm hrr))
  clear hrs hsm hrr
  replace HC : Hid (Calls Tryz.prog 145 #[ptr c] w2 (CaOut own1 w2 c n p b (.int .i64 cr))) := HC
  go_wp2_with fail
  rw [← HM.out.2, ← HM.out.1]
  refine HC.out.mono ?_
  rintro e w3 ⟨rfl, own3, h3, d3⟩
  by_cases hc : cr = 0
  rotate_left
  · have q0 : (cr == 0) = false := by simpa using hc
    have H3 := Lib.hid (And.intro h3 (H2.out.2.1.trans d3))
    have hr := hR.out
    replace hr : R = if cr ≠ 0 then (b, cr) else _ := hr
    rw [if_pos hc] at hr
    clear h3 d3 HC HX
    go_wp2
    go_ret
    rw [hr]
    exact ⟨rfl, own3, H3.out.1, H3.out.2⟩
  subst hc
  have hr := hR.out
  replace hr : R = if (0 : Int) ≠ 0 then (b, 0) else ({ b.noted n 0 k s false (((a.sums k).getD 0 : Nat) : Int) with ps := cleanL a.ps k }, 0) := hr
  rw [if_neg (fun e => e rfl)] at hr
  obtain ⟨⟨hnx, hps⟩, hsm, hroom⟩ := HX.out
  replace hroom := hroom rfl
  obtain ⟨q, hq, rfl, hqn⟩ := getC_iff.1 (show getC a.ps k = 0 from hcd.out.symm)
  have hqb : q < n.bl := by rw [← H.out.1.pl]; exact hq
  obtain ⟨sn, hsn, hse, -⟩ := TieL.slot H.out.2.2.2 hqb hqn
  have hss : s = (sn : Int) := by
    have := congrArg Prod.fst hpv.out
    rw [getV_at hq hqn, hse] at this
    exact this
  subst hss
  obtain ⟨sum, hsum⟩ : ∃ sum, sum = (a.sums (q : Int)).getD 0 := ⟨_, rfl⟩
  rw [← hsum] at hr
  have hsl : sum ≤ 4294967295 := by
    rw [hsum]
    cases hv : a.sums (q : Int) with
    | none => simp
    | some v => simpa using H.out.2.1.sm _ _ hv
  have hb2 := h3.ok.b2
  have hs2 := h3.ok.s2
  have hmay : mayR (jaddX b.next n.jo 0 (q : Int) (sn : Int) false (sum : Int)) = true := by
    have h0 := h3.nx1
    have h1 := H.out.2.1.nx
    have h2 := H.out.2.2.1
    have h4 := h3.ok.j1
    exact mayR_put (s := sn) false h0 (by omega) (by omega) ⟨by omega, by omega⟩ (by omega) hsl
  obtain ⟨-, -, -, d3c, -, -, -, -, d8⟩ := h3.cells
  have hq1 : -9223372036854775808 ≤ (q : Int) := by omega
  have hq2 : (q : Int) < 9223372036854775808 := by omega
  have hg3 := (d3.upd.block _ (lt_of_block H2.out.2.2.1) (fun hs => hs.1 H2.out.2.2.2)).trans H2.out.2.2.1
  have hud3 := (Upd.refl (fun _ => False) w3).drew
  have hL : ∀ X, Upd (fun _ => False) w3 X → (Instr.lookup 168 (.map (some p.sm)) (.int .i64 (q : Int)) false).run Tryz.prog X = .ok (.int .i64 (sum : Int)) X := fun X hX => by
    rw [hsum, ← hsm]
    exact (h3.new hX).sm.1.look1 hq1 hq2
  obtain ⟨w4, hw4⟩ : ∃ w4, w4 = (w3.alloc (.cells (recC 0 0 0 0 0 false 0).toArray 225)).drew := ⟨_, rfl⟩
  have hu4 : Upd (fun _ => False) w3 w4 := by rw [hw4]; exact ((Upd.refl _ w3).alloc _).drew
  obtain ⟨g, hg⟩ : ∃ g, g = w3.heap.size := ⟨_, rfl⟩
  have hg4 : w4.heap[g]? = some (.cells (recC 0 0 0 0 0 false 0).toArray 225 (0, 0)) := by rw [hw4, hg]; exact heap_alloc_last w3 _ rfl
  have hg0 : own3 g = 0 := h3.far _ (by omega)
  have h4 := h3.new hu4
  have d4 := d3.trans (h3.didNew hu4)
  have hth : w4.there g 0 7 := fun j hj => by
    rw [cell_of_block hg4, frozen_of_block hg4, Nat.zero_add]
    exact ⟨by rw [Array.getElem?_eq_getElem (by simpa using hj)]; rfl, rfl⟩
  obtain ⟨w5, hw5⟩ : ∃ w5, w5 = w4.setCells g 0 (recC 0 0 0 (q : Int) (sn : Int) false (sum : Int)) := ⟨_, rfl⟩
  have hus := upd_row w4 g 0 (recC 0 0 0 (q : Int) (sn : Int) false (sum : Int))
  rw [← hw5] at hus
  have hrow : CaAt own3 w5 c n p b ∧ Did own1 own3 w2 w5 := by
    rw [hw5]
    have hn1 := h3.nib.lt
    have hn2 := h3.tur.lt
    refine ⟨h4.nobody (upd_row _ _ _ _) (fun j e => by subst e; exact ⟨hg0, by omega, by omega⟩), ⟨d4.upd.new (upd_row _ _ _ _) (fun i hi e => ?_), d4.old, d4.new, fun j hj => d4.far j (by have := (upd_row w4 g 0 (recC 0 0 0 (q : Int) (sn : Int) false (sum : Int))).size; omega)⟩⟩
    have := d3.upd.size
    omega
  have r5 : w5.rangeAt g 0 (recC 0 0 0 (q : Int) (sn : Int) false (sum : Int)) := by rw [hw5]; exact World.rangeAt_setCells_same _ _ _ _ hth
  have hut := Tryz.underlying225
  have hsi := infoThR
  have hgc : ¬ g = c := fun e => by have := h3.clt; omega
  have hgm : ¬ g = m := fun e => by have := lt_of_block hg3; omega
  have c1 := cell_of_block (hud3.blockv hg3) 0
  have c2 := cell_of_block (hu4.blockv hg3) 0
  simp at c1 c2
  have H4 := Lib.hid (And.intro hrow (And.intro r5 (And.intro hroom (And.intro hmay (And.intro hr (And.intro hnx (And.intro hps hg0)))))))
  have HS1 : Hid (w3.drew.cell? ⟨m, 0, none⟩ = some (.int .i64 (sn : Int)) ∧ w3.drew.cell? ⟨c, 22, none⟩ = some (.map (some p.sm)) ∧ (Instr.lookup 168 (.map (some p.sm)) (.int .i64 (q : Int)) false).run Tryz.prog w3.drew = .ok (.int .i64 (sum : Int)) w3.drew) := ⟨c1, (h3.new hud3).cells.2.2.2.2.2.2.2.2, hL _ hud3⟩
  have HS2 : Hid (w4.cell? ⟨m, 0, none⟩ = some (.int .i64 (sn : Int)) ∧ w4.cell? ⟨c, 22, none⟩ = some (.map (some p.sm)) ∧ (Instr.lookup 168 (.map (some p.sm)) (.int .i64 (q : Int)) false).run Tryz.prog w4 = .ok (.int .i64 (sum : Int)) w4) := ⟨c2, h4.cells.2.2.2.2.2.2.2.2, hL _ hu4⟩
  have HS3 : Hid (w5.cell? ⟨m, 0, none⟩ = some (.int .i64 (sn : Int)) ∧ w5.cell? ⟨c, 22, none⟩ = some (.map (some p.sm)) ∧ (Instr.lookup 168 (.map (some p.sm)) (.int .i64 (q : Int)) false).run Tryz.prog w5 = .ok (.int .i64 (sum : Int)) w5) := ⟨hus.cellv c2 (fun e => hgm e.symm), hrow.1.cells.2.2.2.2.2.2.2.2, by rw [hsum, ← hsm]; exact hrow.1.sm.1.look1 hq1 hq2⟩
  have HW := Lib.hid (And.intro hw4 (And.intro hw5 hg))
  have HT := Lib.hid hth
  clear h3 d3 hg3 hu4 hg4 hg0 h4 d4 hth hus hrow r5 hroom hmay hr hnx hps hsm hw4 hw5 hgc hgm hud3 hL hsum hsl hb2 hs2 hq1 hq2 c1 c2 d3c d8 hq hqn hqb hsn hse HC HX
  go_upto_region 9 with fail
  go_cut [8] (fun s8 wx => s8 = .pointer (some ⟨g, 0, none⟩) ∧ wx = w5)
  case first =>
    refine wp_region_held_drew (S := fun W => W.cell? ⟨m, 0, none⟩ = some (.int .i64 (sn : Int)) ∧ W.cell? ⟨c, 22, none⟩ = some (.map (some p.sm)) ∧ (Instr.lookup 168 (.map (some p.sm)) (.int .i64 (q : Int)) false).run Tryz.prog W = .ok (.int .i64 (sum : Int)) W) (by kernel_rfl) (HS1.out) (fun hHeld => ?_)
    refine Wl.i [0, 1, 2, 3, 4, 5, 6, 7, 8] ?_; iterate 9 refine Wl.t hHeld ?_
    refine Wl.o ?_
    refine wpAnyH_ready (rs := [9, 10]) (by kernel_rfl) (by simp) ?_
    refine AllReadyH.cons rfl (fun K hK => ?_) (AllReadyH.cons rfl (fun K hK => ?_) AllReadyH.nil)
    · go_simp
      refine hK.out _ _ (HS1.out) (fun _ => ?_)
      clear hK K
      refine Wl.r 10 (fun K hK => ?_)
      go_simp
      rw [← HW.out.2.2, show (w3.alloc (.cells #[.int .i64 0, .int .i64 0, .int .i64 0, .int .i64 0, .int .i64 0, .bool false, .int .i64 0] 225)).drew = w4 from HW.out.1.symm]
      refine hK.out _ _ (HS2.out) (fun _ => ?_)
      clear hK K
      try rw [← HW.out.2.2]
      refine Wl.r 11 (fun K hK => ?_)
      rw [if_pos (by rfl)]
      refine wp_store_mid _ _ _ rfl _ _ (recC 0 0 0 (q : Int) (sn : Int) false (sum : Int)).toArray rfl rfl HT.out hsi (all_oneCell_toArray (by intro v hv; simp at hv; rcases hv with rfl | rfl | rfl | rfl | rfl | rfl | rfl <;> rfl)) ?_
      simp only [Act.put, List.setIfInBounds_toArray]
      rw [← HW.out.2.1]
      refine hK.out _ _ (HS3.out) (fun _ => ?_)
      clear hK K
      refine Wl.d ?_
      go_wp2_with fail
      go_meet
      case rel => exact ⟨rfl, rfl⟩
    · go_simp
      rw [← HW.out.2.2, show (w3.alloc (.cells #[.int .i64 0, .int .i64 0, .int .i64 0, .int .i64 0, .int .i64 0, .bool false, .int .i64 0] 225)).drew = w4 from HW.out.1.symm]
      refine hK.out _ _ (HS2.out) (fun _ => ?_)
      clear hK K
      refine Wl.r 9 (fun K hK => ?_)
      go_simp
      refine hK.out _ _ (HS2.out) (fun _ => ?_)
      clear hK K
      try rw [← HW.out.2.2]
      refine Wl.r 11 (fun K hK => ?_)
      rw [if_pos (by rfl)]
      refine wp_store_mid _ _ _ rfl _ _ (recC 0 0 0 (q : Int) (sn : Int) false (sum : Int)).toArray rfl rfl HT.out hsi (all_oneCell_toArray (by intro v hv; simp at hv; rcases hv with rfl | rfl | rfl | rfl | rfl | rfl | rfl <;> rfl)) ?_
      simp only [Act.put, List.setIfInBounds_toArray]
      rw [← HW.out.2.1]
      refine hK.out _ _ (HS3.out) (fun _ => ?_)
      clear hK K
      refine Wl.d ?_
      go_wp2_with fail
      go_meet
      case rel => exact ⟨rfl, rfl⟩
  case rest =>
    obtain ⟨rfl, rfl⟩ := hcut
    obtain ⟨⟨h5, d5⟩, r5, hroom, hmay, hr, hnx, hps, hg0⟩ := H4.out
    have hud := (Upd.refl (fun _ => False) wc).drew
    have hbn : b.next ≤ 50000 := by have h1 := H.out.2.1.nx; have h2 := H.out.2.2.1; omega
    have HJ := Lib.hid (ca_jadd (h5.new hud) (by omega) (by omega) 0 0 0 (q : Int) (sn : Int) false (sum : Int) hmay)
    obtain ⟨-, -, -, d3c, -, -, -, -, -⟩ := h5.cells
    have D5 := Lib.hid (H2.out.2.1.trans (d5.trans (h5.didNew hud)))
    clear h5 d5 hud HS1 HS2 HS3 HT HW
    go_upto_region 10 with fail
    refine wp_region_held_drew (S := fun W => W.cell? ⟨c, 17, none⟩ = some (ptr p.jr) ∧ W.rangeAt g 0 (recC 0 0 0 (q : Int) (sn : Int) false (sum : Int))) (by kernel_rfl) (by (simp only [World.cell?_drew, World.rangeAt_drew]); exact ⟨d3c, r5⟩) (fun hHeld => ?_)
    refine Wl.i [0, 1, 2, 3] ?_; iterate 4 refine Wl.t hHeld ?_
    refine Wl.o ?_
    refine Wl.l 4 (fun w h => h.2) hut hsi hHeld ?_
    refine Wl.r 5 (fun K hK => ?_)
    go_simp
    refine HJ.out.mono ?_
    rintro e w6 ⟨rfl, own6, h6, d6⟩
    obtain ⟨-, -, -, i3, i4, -, -, -, -⟩ := h6.cells
    have r6 := d6.upd.range (show wc.drew.rangeAt g 0 (recC 0 0 0 (q : Int) (sn : Int) false (sum : Int)) by rw [World.rangeAt_drew]; exact r5) (fun h => h.1 hg0)
    have HP := Lib.hid (ca_clean h6 (q : Int))
    have H6 := Lib.hid (D5.out.trans d6)
    clear h6 d6 r5 d3c HJ
    refine hK.out _ _ (⟨i3, r6⟩) (fun hH1 => ?_)
    clear hK K
    refine Wl.i [6, 7, 8] ?_; iterate 3 refine Wl.t hH1 ?_
    refine Wl.o ?_
    refine Wl.r 9 (fun K hK => ?_)
    go_simp
    refine hK.out _ _ (hH1) (fun hH2 => ?_)
    clear hK K
    refine Wl.r 10 (fun K hK => ?_)
    go_simp
    refine hK.out _ _ (hH2) (fun hH3 => ?_)
    clear hK K
    refine Wl.d ?_
    have hc1 : getC a.ps (q : Int) = 0 := hcd.out.symm
    have HR := Lib.hid hr
    replace HP : Hid (Calls Tryz.prog 147 #[ptr p.ix, .int .i64 (q : Int)] w6 (CaOut own6 w6 c n p { b.noted n 0 (q : Int) (sn : Int) false (sum : Int) with ps := cleanL b.ps (q : Int) } (.int .i64 (getC b.ps (q : Int))))) := HP
    rw [hps, hc1] at HP
    clear hHeld hH1 hH2 hH3 hr hps hc1 hut hsi hroom hmay hnx r6 i3 hg0
    go_wp2_with fail
    refine HP.out.mono ?_
    rintro e w7 ⟨rfl, own7, h7, d7⟩
    go_wp2
    go_ret
    rw [HR.out]
    exact ⟨rfl, own7, h7, H6.out.trans d7⟩
end
end Go.Proofs.YtnadilfobmgebaaGreatDoor
namespace Go.Proofs.YtnadilfobmgebaaGreatDoor
open Go Go.RowKit Go.Shelf
attribute [local go_sem] Oper.semAt_some
section
variable {own : Nat → Nat} {w w' : World} {c : Nat} {n : CaN} {p : CaP} {a : CaS} {N : Nat}
abbrev CaN.cells (n : CaN) : List Value := superC n.id n.bl n.sl n.jo n.pa n.lo n.ba
set_option maxRecDepth 100000 in
theorem ca_super (h : CaAt own w c n p a) : Calls Tryz.prog 93 #[ptr c] w fun e w' => e = .returned (.agg n.cells.toArray) ∧ Below w.heap.size w w' := by
  obtain ⟨w1, hw1⟩ : ∃ w1, w1 = w.alloc (.cells #[.int .i64 0, .int .i64 0, .int .i64 0, .int .i64 0, .int .i64 0, .int .i64 0, .int .i64 0] 34) := ⟨_, rfl⟩
  have hu1 : Upd (fun _ => False) w w1 := by rw [hw1]; exact (Upd.refl _ w).alloc _
  have g1 : w1.heap[w.heap.size]? = some (.cells #[.int .i64 0, .int .i64 0, .int .i64 0, .int .i64 0, .int .i64 0, .int .i64 0, .int .i64 0] 34 (0, 0)) := by rw [hw1]; exact heap_alloc_last w _ rfl
  have hb1 : Below w.heap.size w w1 := by rw [hw1]; exact (Below.refl _ w).alloc (Nat.le_refl _) _
  obtain ⟨s0, s1, s2, s3, s4, s5, s6⟩ := (h.new hu1).sup
  have rC : w1.rangeAt c 0 n.cells := fun j v hv => by
    rw [Nat.zero_add]
    rcases j with _ | _ | _ | _ | _ | _ | _ | j
    · cases hv; exact s0
    · cases hv; exact s1
    · cases hv; exact s2
    · cases hv; exact s3
    · cases hv; exact s4
    · cases hv; exact s5
    · cases hv; exact s6
    · cases hv
  have hth : w1.there w.heap.size 0 7 := fun j hj => by
    rw [cell_of_block g1, frozen_of_block g1, Nat.zero_add]
    exact ⟨by rw [Array.getElem?_eq_getElem (by simpa using hj)]; rfl, rfl⟩
  obtain ⟨C, hC⟩ : ∃ C, C = n.cells := ⟨_, rfl⟩
  rw [← hC] at rC ⊢
  have hCl : C.length = 7 := by rw [hC]; rfl
  have HC : Hid (w1.rangeAt c 0 C ∧ (Tryz.prog.info? 34).map (·.size) = some C.length ∧ w1.there w.heap.size 0 C.toArray.size ∧ (Tryz.prog.info? 34).map (·.size) = some C.toArray.size ∧ C.toArray.all (·.oneCell') = true ∧ w1.there w.heap.size 0 C.length ∧ Below w.heap.size w w1) := by
    refine ⟨rC, by rw [hC]; exact infoSup, (by rw [show C.toArray.size = 7 from by rw [hC]; rfl]; exact hth), by rw [hC]; exact infoSup, all_oneCell_toArray (by intro v hv; rw [hC] at hv; simp [CaN.cells] at hv; rcases hv with rfl | rfl | rfl | rfl | rfl | rfl | rfl <;> rfl), by rw [hCl]; exact hth, hb1⟩
  have HW := Lib.hid hw1
  clear h hu1 g1 hb1 s0 s1 s2 s3 s4 s5 s6 rC hth hC hCl hw1
  go_enter Tryz.func93, Tryz.ntmps93
  go_upto_region 3 with fail
  rw [← HW.out]
  go_wp2_with (first
    | (refine wpList_load_mid rfl _ _ rfl _ _ rfl C _ HC.out.1 Tryz.underlying34 rfl HC.out.2.1 ?_)
    | (refine wpList_store_mid rfl _ _ _ rfl w.heap.size 0 C.toArray rfl rfl HC.out.2.2.1 HC.out.2.2.2.1 HC.out.2.2.2.2.1 ?_)
    | fail)
  exact bodyPost_ret (results_mid1 rfl _ _ w.heap.size 0 C _ rfl (World.rangeAt_setCells_same _ _ _ _ HC.out.2.2.2.2.2.1) Tryz.underlying34 rfl HC.out.2.1) rfl ⟨rfl, below_upd HC.out.2.2.2.2.2.2 (upd_row _ w.heap.size 0 _) (Nat.le_refl _) (fun k h => by omega)⟩
set_option maxRecDepth 100000 in
theorem ca_places (h : CaAt own w c n p a) : Calls Tryz.prog 144 #[ptr c, spanV 0 n.bl] w (AllOut9 w a.ps 0 n.bl) := by
  obtain ⟨w1, hw1⟩ : ∃ w1, w1 = w.alloc (.cells #[.int .i64 0, .int .i64 (n.bl : Int)] 37) := ⟨_, rfl⟩
  have hu1 : Upd (fun _ => False) w w1 := by rw [hw1]; exact (Upd.refl _ w).alloc _
  have g1 : w1.heap[w.heap.size]? = some (.cells #[.int .i64 0, .int .i64 (n.bl : Int)] 37 (0, 0)) := by rw [hw1]; exact heap_alloc_last w _ rfl
  have hb1 : Below w.heap.size w w1 := by rw [hw1]; exact (Below.refl _ w).alloc (Nat.le_refl _) _
  have hud := (Upd.refl (fun _ => False) w1).drew
  obtain ⟨vi, mi, hix, -, -⟩ := ((h.new hu1).new hud).ix
  have hbp := h.ok.b1
  have HA := Lib.hid (all_inT hix 0 n.bl (by rw [h.pl]; omega))
  obtain ⟨-, -, -, -, c18, -, -, -, -⟩ := (h.new hu1).cells
  have r1 := range_of_block g1
  have HB := Lib.hid hb1
  have HW := Lib.hid hw1
  have hut := Tryz.underlying37
  have hsi : (Tryz.prog.info? 37).map (·.size) = some 2 := by kernel_rfl
  clear h hu1 g1 hb1 hud hix hbp hw1
  go_enter Tryz.func144, Tryz.ntmps144
  go_upto_region 3 with fail
  rw [← HW.out]
  refine wp_region_held_drew (S := fun W => W.cell? ⟨c, 18, none⟩ = some (ptr p.ix) ∧ W.rangeAt w.heap.size 0 [.int .i64 0, .int .i64 (n.bl : Int)]) (by kernel_rfl) (by (simp only [World.cell?_drew, World.rangeAt_drew]); exact ⟨c18, r1⟩) (fun hHeld => ?_)
  refine Wl.i [0, 1, 2, 3] ?_; iterate 4 refine Wl.t hHeld ?_
  refine Wl.o ?_
  refine Wl.l 4 (fun w h => h.2) hut hsi hHeld ?_
  refine Wl.r 5 (fun K hK => ?_)
  go_simp
  refine HA.out.mono ?_
  rintro e w2 ⟨Bs, Bp, g, off, cap, rfl, ⟨h1, h2, h3⟩, h4, h5, h6, h7, h8, h9, hb2⟩
  have hb3 : Below w.heap.size w w2 := (HB.out.drew).trans (hb2.mono HB.out.size)
  have i18 : w2.cell? ⟨c, 18, none⟩ = some (ptr p.ix) := (hb2.cell (p := ⟨c, 18, none⟩) (addr_of_cell c18).2).trans c18
  have r2 : w2.rangeAt w.heap.size 0 [.int .i64 0, .int .i64 (n.bl : Int)] := (Upd.of_below (S := fun _ => False) hb2).range (show w1.drew.rangeAt w.heap.size 0 _ by rw [World.rangeAt_drew]; exact r1) (fun h => h)
  have HX := Lib.hid (show AllOut9 w a.ps 0 n.bl _ w2 from ⟨Bs, Bp, g, off, cap, rfl, ⟨Nat.le_trans HB.out.size h1, Nat.le_trans HB.out.size h2, Nat.le_trans HB.out.size h3⟩, h4, h5, h6, h7, h8, h9, hb3⟩)
  clear h1 h2 h3 h4 h5 h6 h7 h8 h9 hb2 hb3
  refine hK.out _ _ (⟨i18, r2⟩) (fun hH1 => ?_)
  clear hK K
  refine Wl.r 6 (fun K hK => ?_)
  go_simp
  refine hK.out _ _ (hH1) (fun hH2 => ?_)
  clear hK K
  refine Wl.d ?_
  clear hHeld hH1 hH2 i18 r2 c18 r1
  go_wp2
  go_ret
  exact HX.out
theorem ca_dirty (_hc : True) : Calls Tryz.prog 89 #[ptr c] w fun e w' => e = .returned (.func (.func 143) #[] #[.pointer (some ⟨w.heap.size, 0, none⟩)]) ∧ w' = w.alloc (.cells #[ptr c] 95) := by
  have hmf : ∀ (fn : Fn) (first cap : Array Value) (w : World), (Instr.makeFunc fn first cap).run Tryz.prog w = .ok (.func fn first cap) w := fun _ _ _ _ => rfl
  go_enter Tryz.func89, Tryz.ntmps89
  go_wp2
  go_ret
  exact ⟨rfl, rfl⟩
end
end Go.Proofs.YtnadilfobmgebaaGreatDoor
