/- A cache: what its blocks are; its devices' calls keep them. -/
import Derived.Test.YtnadilfobmgebaaGreatDoorH28
namespace Go.Proofs.YtnadilfobmgebaaGreatDoor
open Go Go.RowKit
def Pl (P : List Int) : Prop := ∀ x ∈ P, x = 0 ∨ x = 1
theorem Pl.tail {P : List Int} (h : Pl P) : Pl P.tail := fun x hx => h x (List.mem_of_mem_tail hx)
theorem Pl.fate {P : List Int} (h : Pl P) : fate P = 0 ∨ fate P = 1 := by
  cases P with
  | nil => exact .inl rfl
  | cons x P => exact h x (by simp)
theorem curB_snoc (F : List Bk) (O : List (Nat × Bk)) (t : Nat) (y : Bk) (s : Nat) : curB F (O ++ [(t, y)]) s = if t = s ∧ t < F.length then y else curB F O s := by
  have e : flushF F (O ++ [(t, y)]) = (flushF F O).set t y := by simp [flushF]
  unfold curB
  rw [e, getD_set, flushF_len]
structure Kp (b : Nat) (F : List Bk) (O : List (Nat × Bk)) (P : List Int) (r : DRes) : Prop where
  len : r.F.length = F.length
  cur : ∀ s, b ≤ s → curB r.F r.O s = curB F O s
  pl : Pl P → Pl r.P
  no : P = [] → r.P = []
theorem Kp.trans {b : Nat} {F : List Bk} {O : List (Nat × Bk)} {P : List Int} {r q : DRes} (h1 : Kp b F O P r) (h2 : Kp b r.F r.O r.P q) : Kp b F O P q :=
  ⟨h2.len.trans h1.len, fun s hs => (h2.cur s hs).trans (h1.cur s hs), fun h => h2.pl (h1.pl h), fun h => h2.no (h1.no h)⟩
theorem flushR_kp (b : Nat) (F : List Bk) (O : List (Nat × Bk)) (P : List Int) : Kp b F O P (flushR F O P) := by
  unfold flushR
  split
  · exact ⟨rfl, fun _ _ => rfl, Pl.tail, fun h => by rw [h]; rfl⟩
  split
  · exact ⟨flushF_len _ _, fun _ _ => rfl, Pl.tail, fun h => by rw [h]; rfl⟩
  · exact ⟨rfl, fun _ _ => rfl, Pl.tail, fun h => by rw [h]; rfl⟩
theorem writeR_kp (b : Nat) (F : List Bk) (O : List (Nat × Bk)) (P : List Int) (t : Nat) (y : Bk) (ht : t < b) : Kp b F O P (writeR F O P t y) := by
  unfold writeR
  split
  · exact ⟨rfl, fun _ _ => rfl, Pl.tail, fun h => by rw [h]; rfl⟩
  split
  · exact ⟨rfl, fun s hs => by rw [curB_snoc, if_neg (by omega)], Pl.tail, fun h => by rw [h]; rfl⟩
  · exact ⟨rfl, fun _ _ => rfl, Pl.tail, fun h => by rw [h]; rfl⟩
theorem flushR_nil (F : List Bk) (O : List (Nat × Bk)) : flushR F O [] = ⟨flushF F O, [], [], 0⟩ := rfl
theorem writeR_nil (F : List Bk) (O : List (Nat × Bk)) (t : Nat) (y : Bk) : writeR F O [] t y = ⟨F, O ++ [(t, y)], [], 0⟩ := rfl
theorem wrsR_kp (b : Nat) (F : List Bk) (L : List (Nat × Bk)) : ∀ O P, (∀ q ∈ L, q.1 < b) → Kp b F O P (wrsR F L O P) := by
  induction L with
  | nil => intro O P _; exact ⟨rfl, fun _ _ => rfl, fun h => h, fun h => h⟩
  | cons x L ih =>
    intro O P hL
    have h1 := writeR_kp b F O P x.1 x.2 (hL x (by simp))
    have hF := writeR_F F O P x.1 x.2
    simp only [wrsR]
    split
    · have h2 := ih (writeR F O P x.1 x.2).O (writeR F O P x.1 x.2).P (fun q hq => hL q (by simp [hq]))
      exact Kp.trans h1 (by rw [hF]; exact h2)
    · exact h1
theorem wrsR_nil (F : List Bk) (L : List (Nat × Bk)) : ∀ O, (wrsR F L O []).cd = 0 ∧ (wrsR F L O []).P = [] := by
  induction L with
  | nil => intro O; exact ⟨rfl, rfl⟩
  | cons x L ih => intro O; rw [wrsR_yes rfl]; exact ih _
theorem saveR_kp (b : Nat) (F : List Bk) (O : List (Nat × Bk)) (P : List Int) (L : List (Nat × Bk)) (hL : ∀ q ∈ L, q.1 < b) : Kp b F O P (saveR F O P L) := by
  have h1 := wrsR_kp b F L O P hL
  have hF := wrsR_F F L O P
  unfold saveR
  split
  · exact Kp.trans h1 (by rw [hF]; exact flushR_kp b F _ _)
  · exact h1
theorem saveR_nil (F : List Bk) (O : List (Nat × Bk)) (L : List (Nat × Bk)) : (saveR F O [] L).cd = 0 := by
  obtain ⟨h1, h2⟩ := wrsR_nil F L O
  unfold saveR
  rw [if_pos h1, h2]
  rfl
theorem comW_kp (b base n : Nat) (F : List Bk) (hb : base + n ≤ b) (hn : 0 < n) : ∀ (W O : List (Nat × Bk)) (P : List Int), Kp b F O P (comW base n F W O P)
  | [], O, P => ⟨rfl, fun _ _ => rfl, fun h => h, fun h => h⟩
  | (s, y) :: W, O, P => by
    have h1 := writeR_kp b F O P (base + (s - 1) % n) y (by have := Nat.mod_lt (s - 1) hn; omega)
    have hF := writeR_F F O P (base + (s - 1) % n) y
    unfold comW
    split
    · exact Kp.trans h1 (by rw [hF]; exact comW_kp b base n F hb hn W _ _)
    · exact h1
theorem comW_nil (base n : Nat) (F : List Bk) : ∀ (W O : List (Nat × Bk)), (comW base n F W O []).cd = 0 ∧ (comW base n F W O []).P = []
  | [], O => ⟨rfl, rfl⟩
  | (s, y) :: W, O => by
    unfold comW
    rw [if_pos (show (writeR F O [] (base + (s - 1) % n) y).cd = 0 from rfl)]
    exact comW_nil base n F W _
theorem comR_kp (b base n : Nat) (F : List Bk) (O : List (Nat × Bk)) (P : List Int) (W : List (Nat × Bk)) (hb : base + n ≤ b) (hn : 0 < n) : Kp b F O P (comR base n F O P W).1 := by
  have h1 := flushR_kp b F O P
  have h2 := h1.trans (comW_kp b base n (flushR F O P).F hb hn W (flushR F O P).O (flushR F O P).P)
  have h3 := h2.trans (flushR_kp b _ _ _)
  unfold comR
  split
  · exact h1
  split
  · exact h2
  split
  · exact h3
  · exact h3
theorem comR_nil (base n : Nat) (F : List Bk) (O W : List (Nat × Bk)) : (comR base n F O [] W).1.cd = 0 ∧ (comR base n F O [] W).1.O = [] ∧ (W = [] ∨ (comR base n F O [] W).2 = []) := by
  obtain ⟨h1, h2⟩ := comW_nil base n (flushF F O) W []
  unfold comR
  rw [flushR_nil]
  dsimp only
  by_cases hW : W = []
  · rw [if_pos (.inr hW)]
    exact ⟨rfl, rfl, .inl hW⟩
  · rw [if_neg (fun h => h.elim (fun h => h rfl) hW), if_neg (by rw [h1]; exact fun h => h rfl), h2, flushR_nil, if_neg (by exact fun h => h rfl)]
    exact ⟨rfl, rfl, .inr rfl⟩
structure CaS.Same (n : CaN) (x y : CaS) : Prop where
  dl : y.dF.length = x.dF.length
  bl : y.bF.length = x.bF.length
  d : ∀ s, n.slot0 ≤ s → curB y.dF y.dO s = curB x.dF x.dO s
  b : ∀ s, curB y.bF y.bO s = curB x.bF x.bO s
  ps : y.ps = x.ps
  sums : y.sums = x.sums
  pd : Pl x.dP → Pl y.dP
  pb : Pl x.bP → Pl y.bP
  nd : x.dP = [] → y.dP = []
  nb : x.bP = [] → y.bP = []
section
variable {n : CaN} {a b c : CaS}
theorem CaS.Same.refl (n : CaN) (a : CaS) : CaS.Same n a a := ⟨rfl, rfl, fun _ _ => rfl, fun _ => rfl, rfl, rfl, fun h => h, fun h => h, fun h => h, fun h => h⟩
theorem CaS.Same.trans (h : CaS.Same n a b) (g : CaS.Same n b c) : CaS.Same n a c :=
  ⟨g.dl.trans h.dl, g.bl.trans h.bl, fun s hs => (g.d s hs).trans (h.d s hs), fun s => (g.b s).trans (h.b s), g.ps.trans h.ps, g.sums.trans h.sums, fun x => g.pd (h.pd x), fun x => g.pb (h.pb x), fun x => g.nd (h.nd x), fun x => g.nb (h.nb x)⟩
theorem CaS.Same.onD {r : DRes} (h : Kp n.slot0 a.dF a.dO a.dP r) : CaS.Same n a (a.dev r) := { CaS.Same.refl n a with dl := h.len, d := h.cur, pd := h.pl, nd := h.no }
theorem CaS.Same.onB {r : DRes} (h : Kp 0 a.bF a.bO a.bP r) : CaS.Same n a (a.bdev r) := { CaS.Same.refl n a with bl := h.len, b := fun s => h.cur s (Nat.zero_le _), pb := h.pl, nb := h.no }
theorem CaS.same_fb (n : CaN) (a : CaS) : CaS.Same n a a.fb := CaS.Same.onB (flushR_kp 0 _ _ _)
theorem CaS.same_fd (n : CaN) (a : CaS) : CaS.Same n a a.fd := CaS.Same.onD (flushR_kp _ _ _ _)
theorem CaS.svR_kp (n : CaN) (a : CaS) : Kp n.slot0 a.dF a.dO a.dP (a.svR n) := by
  refine saveR_kp _ _ _ _ _ fun q hq => ?_
  obtain ⟨i, hi, rfl⟩ := List.mem_map.1 hq
  have hi := List.mem_range.1 hi
  show 1 + (1 - a.which) * n.pa + i < n.slot0
  have : (1 - a.which) * n.pa ≤ 1 * n.pa := Nat.mul_le_mul_right _ (by omega)
  unfold CaN.slot0
  omega
theorem CaS.same_sv (n : CaN) (a : CaS) : CaS.Same n a (a.dev (a.svR n)) := CaS.Same.onD (a.svR_kp n)
theorem CaS.same_ckpt (n : CaN) (a : CaS) : CaS.Same n a (a.ckpt n).1 := by
  have h1 := a.same_fb n
  have h2 := h1.trans (a.fb.same_fd n)
  have h3 := h2.trans (a.fb.fd.same_sv n)
  unfold CaS.ckpt
  split
  · exact h1
  split
  · exact h2
  split
  · exact h3
  · exact { h3 with }
def CaS.NoP (a : CaS) : Prop := a.dP = [] ∧ a.bP = []
theorem CaS.Same.noP (h : CaS.Same n a b) (hn : a.NoP) : b.NoP := ⟨h.nd hn.1, h.nb hn.2⟩
theorem CaS.NoP.ckpt (h : a.NoP) : (a.ckpt n).2 = 0 := by
  have e1 : (flushR a.bF a.bO a.bP).cd = 0 := by rw [h.2]; rfl
  have e2 : (flushR a.fb.dF a.fb.dO a.fb.dP).cd = 0 := by show (flushR a.dF a.dO a.dP).cd = 0; rw [h.1]; rfl
  have e3 : (a.fb.fd.svR n).cd = 0 := by
    have hP : a.fb.fd.dP = [] := by show (flushR a.dF a.dO a.dP).P = []; rw [h.1]; rfl
    unfold CaS.svR
    rw [hP]
    exact saveR_nil _ _ _
  unfold CaS.ckpt
  rw [if_neg (fun x => x e1), if_neg (fun x => x e2), if_neg (fun x => x e3)]
theorem CaS.same_roomed (n : CaN) (a : CaS) : CaS.Same n a (a.roomed n).1 := by
  unfold CaS.roomed
  split
  · exact CaS.Same.refl n a
  · exact a.same_ckpt n
theorem CaS.NoP.roomed (h : a.NoP) : (a.roomed n).2 = 0 := by
  unfold CaS.roomed
  split
  · rfl
  · exact h.ckpt
theorem CaS.same_cm (n : CaN) (hj : 1 ≤ n.jo) (a : CaS) : CaS.Same n a (a.cm n) :=
  { CaS.Same.onD (n := n) (a := a) (comR_kp n.slot0 (1 + 2 * n.pa) n.jo a.dF a.dO a.dP a.W (by unfold CaN.slot0; omega) hj) with }
theorem CaS.same_committed (n : CaN) (hj : 1 ≤ n.jo) (a : CaS) : CaS.Same n a (a.committed n).1 := by
  have h1 := a.same_fb n
  have h2 := h1.trans (a.fb.same_cm n hj)
  unfold CaS.committed
  split
  · exact h1
  split
  · exact h2
  · exact { h2 with }
theorem CaS.NoP.committed (h : a.NoP) : (a.committed n).2 = 0 ∧ (a.committed n).1.dO = [] ∧ (a.committed n).1.bO = [] ∧ (a.committed n).1.st = freeTo a.st (pos a.st 3) := by
  have e1 : (flushR a.bF a.bO a.bP).cd = 0 := by rw [h.2]; rfl
  have e3 : a.fb.bO = [] := by show (flushR a.bF a.bO a.bP).O = []; rw [h.2]; rfl
  have e2 := comR_nil (1 + 2 * n.pa) n.jo a.dF a.dO a.W
  have e4 : a.fb.com n = comR (1 + 2 * n.pa) n.jo a.dF a.dO [] a.W := by show comR _ _ a.dF a.dO a.dP a.W = _; rw [h.1]
  rw [← e4] at e2
  unfold CaS.committed
  rw [if_neg (fun x => x e1), if_neg (fun x => x e2.1)]
  exact ⟨rfl, e2.2.1, e3, rfl⟩
theorem CaS.same_al (n : CaN) (a : CaS) : CaS.Same n a a.al := { CaS.Same.refl n a with }
theorem CaS.same_ev (n : CaN) (a : CaS) : CaS.Same n a (a.ev n) := { CaS.Same.refl n a with }
theorem CaS.same_turned (n : CaN) (a : CaS) (l : List Int) : CaS.Same n a { a with st := l } := { CaS.Same.refl n a with }
theorem CaS.same_takeR (n : CaN) (a : CaS) (s : Int) : CaS.Same n a (a.takeR n s).1 := by
  have h := a.same_roomed n
  unfold CaS.takeR
  split
  · exact h
  · exact h.trans (CaS.same_turned n _ _)
theorem CaS.NoP.takeR (h : a.NoP) (s : Int) : (a.takeR n s).2.2.2 = 0 := by
  unfold CaS.takeR
  rw [if_pos h.roomed]
theorem CaS.same_take3 (hj : 1 ≤ n.jo) (a : CaS) : CaS.Same n a (a.take3 n).1 := by
  have h := a.same_committed n hj
  unfold CaS.take3
  split
  · exact h
  split
  · exact h.trans (CaS.same_al n _)
  · exact (h.trans (CaS.same_al n _)).trans (CaS.same_takeR n _ _)
theorem CaS.NoP.take3 (hj : 1 ≤ n.jo) (h : a.NoP) : (a.take3 n).2.2.2 = 0 := by
  unfold CaS.take3
  rw [if_neg (fun x => x h.committed.1)]
  split
  · rfl
  · exact CaS.NoP.takeR (((a.same_committed n hj).trans (CaS.same_al n _)).noP h) _
theorem CaS.same_take2 (hj : 1 ≤ n.jo) (a : CaS) : CaS.Same n a (a.take2 n).1 := by
  unfold CaS.take2
  split
  · exact CaS.Same.refl n a
  · exact CaS.same_take3 hj a
theorem CaS.NoP.take2 (hj : 1 ≤ n.jo) (h : a.NoP) : (a.take2 n).2.2.2 = 0 := by
  unfold CaS.take2
  split
  · rfl
  · exact h.take3 hj
end
structure CaS.Val (n : CaN) (a : CaS) (v : Nat → Bk) : Prop where
  dl : a.dF.length = n.size
  bl : a.bF.length = n.bl
  pl : a.ps.length = n.bl
  bk : ∀ k, k < n.bl → (plc a.ps k).2 = false → curB a.bF a.bO k = v k
  ins : ∀ k, k < n.bl → plc a.ps k ≠ (-1, false) → curB a.dF a.dO (n.slot0 + (plc a.ps k).1.toNat) = v k ∧ a.sums (k : Int) = some (crcC (v k))
def updV (v : Nat → Bk) (k : Nat) (x : Bk) : Nat → Bk := fun m => if m = k then x else v m
section
variable {n : CaN} {a b : CaS} {v : Nat → Bk}
theorem CaS.Val.same (h : a.Val n v) (g : CaS.Same n a b) : b.Val n v where
  dl := g.dl.trans h.dl
  bl := g.bl.trans h.bl
  pl := by rw [g.ps]; exact h.pl
  bk := fun k hk hd => by rw [g.ps] at hd; rw [g.b]; exact h.bk k hk hd
  ins := fun k hk hd => by
    rw [g.ps] at hd ⊢
    rw [g.d _ (Nat.le_add_right _ _), g.sums]
    exact h.ins k hk hd
theorem CaS.Val.left (h : a.Val n v) {k : Int} (hg : getC a.ps k = 0) (hc : curB a.bF a.bO k.toNat = v k.toNat) : (a.left n k).Val n v := by
  obtain ⟨m, hm, rfl, hn⟩ := getC_iff.1 hg
  rw [Int.toNat_natCast] at hc
  have hp : ∀ j, plc (dropL a.ps (m : Int)) j = if j = m then (-1, false) else plc a.ps j := fun j => by
    unfold dropL
    rw [if_pos hg, Int.toNat_natCast, plc_set _ _ _ _ hm]
  refine ⟨h.dl, h.bl, by show (dropL a.ps (m : Int)).length = n.bl; unfold dropL; rw [if_pos hg, List.length_set]; exact h.pl, fun j hj hd => ?_, fun j hj hd => ?_⟩
  · replace hd : (plc (dropL a.ps (m : Int)) j).2 = false := hd
    rw [hp] at hd
    split at hd
    · next e => subst e; exact hc
    · exact h.bk j hj hd
  · replace hd : plc (dropL a.ps (m : Int)) j ≠ (-1, false) := hd
    show curB a.dF a.dO (n.slot0 + (plc (dropL a.ps (m : Int)) j).1.toNat) = v j ∧ upd1 a.sums (m : Int) none (j : Int) = some (crcC (v j))
    rw [hp] at hd ⊢
    split at hd
    · exact absurd rfl hd
    · next e =>
      rw [if_neg e, upd1, if_neg (by omega)]
      exact h.ins j hj hd
theorem CaS.Val.evicts : ∀ (m g : Nat) {a : CaS}, a.Val n v → (CaS.evicts n m g a).1.Val n v
  | 0, g, a, h => h
  | m + 1, g, a, h => by
    have hr := h.same (a.same_roomed n)
    have he := hr.same (CaS.same_ev n _)
    simp only [CaS.evicts]
    split
    · exact h
    split
    · exact hr
    split
    · exact he
    · next hc =>
      have hc := Decidable.of_not_not hc
      have hl : ((((a.roomed n).1.ev n).left n ((a.roomed n).1.evK n))).Val n v := by
        rcases evR_cases (cleanB (a.roomed n).1.ps) n.sl (a.roomed n).1.K (a.roomed n).1.A (a.roomed n).1.H with ⟨h1, -⟩ | ⟨-, i, A', hi, hE, hf, -⟩
        · have : (a.roomed n).1.evC n = 14 := h1
          rw [this] at hc; cases hc
        · have hk : (a.roomed n).1.evK n = (a.roomed n).1.K[i] := by rw [CaS.evK, hE]
          have hg := clean_get hf
          rw [← hk] at hg hf
          obtain ⟨q, hq, hqe, hqn⟩ := getC_iff.1 hg
          refine CaS.Val.left he hg ?_
          rw [hqe, Int.toNat_natCast]
          refine he.bk q (by rw [← hr.pl]; exact hq) ?_
          show (plc (a.roomed n).1.ps q).2 = false
          unfold cleanB at hf
          rw [hqe, getV_at hq hqn, Bool.and_eq_true, Bool.not_eq_true'] at hf
          exact hf.2
      split
      · exact hl
      · exact CaS.Val.evicts m (g + 1) hl
theorem CaS.NoP.evicts {o : Option Nat} : ∀ (m g : Nat) {a : CaS}, a.NoP → a.Tie n o → (CaS.evicts n m g a).2.2 = 0 ∧ (CaS.evicts n m g a).1.NoP
  | 0, g, a, h, _ => ⟨rfl, h⟩
  | m + 1, g, a, h, ht => by
    have hr := (a.same_roomed n).noP h
    have htr := CaS.Tie.roomed ht
    simp only [CaS.evicts]
    split
    · exact ⟨rfl, h⟩
    rw [if_neg (fun x => x h.roomed)]
    split
    · exact ⟨rfl, hr⟩
    · next hc =>
      obtain ⟨-, h2, h3⟩ := CaS.Tie.evLeft htr (Decidable.of_not_not hc)
      rw [if_neg (fun x => x h2)]
      exact CaS.NoP.evicts m (g + 1) (a := ((a.roomed n).1.ev n).left n ((a.roomed n).1.evK n)) hr h3
theorem CaS.Val.takes (hj : 1 ≤ n.jo) (h : a.Val n v) : (a.takes n).1.Val n v := by
  have ha := h.same (CaS.same_al n a)
  unfold CaS.takes
  split
  · exact ha.same (CaS.same_takeR n _ _)
  · have he := CaS.Val.evicts 1 0 ha
    unfold CaS.take1
    split
    · split
      · exact he
      · exact he.same (CaS.same_take2 hj _)
    · exact ha.same (CaS.same_take2 hj _)
theorem CaS.NoP.takes (hj : 1 ≤ n.jo) (h : a.NoP) (ht : a.Tie n none) : (a.takes n).2.2.2 = 0 ∧ (a.takes n).1.NoP := by
  have ha : a.al.NoP := h
  unfold CaS.takes
  split
  · exact ⟨CaS.NoP.takeR ha _, (CaS.same_takeR n _ _).noP ha⟩
  · next hc =>
    have hta : a.al.Tie n none := by
      show TieL n.bl n.sl a.ps (allocList a.st) a.K none
      rw [alloc_none hc]; exact ht
    have he := CaS.NoP.evicts 1 0 ha hta
    unfold CaS.take1
    split
    · rw [if_neg (fun x => x he.1)]
      exact ⟨CaS.NoP.take2 hj he.2, (CaS.same_take2 hj _).noP he.2⟩
    · exact ⟨CaS.NoP.take2 hj ha, (CaS.same_take2 hj _).noP ha⟩
theorem CaS.Val.bw (h : a.Val n v) (hP : a.NoP) (k : Nat) (hk : k < n.bl) (x : Bk) :
    (a.bdev (writeR a.bF a.bO a.bP k x)).NoP ∧ (writeR a.bF a.bO a.bP k x).cd = 0 ∧ curB (writeR a.bF a.bO a.bP k x).F (writeR a.bF a.bO a.bP k x).O k = x ∧ (∀ m, m ≠ k → curB (writeR a.bF a.bO a.bP k x).F (writeR a.bF a.bO a.bP k x).O m = curB a.bF a.bO m) ∧ (writeR a.bF a.bO a.bP k x).F.length = n.bl := by
  have hl := h.bl
  rw [hP.2, writeR_nil]
  refine ⟨⟨hP.1, rfl⟩, rfl, ?_, fun m hm => ?_, hl⟩
  · show curB a.bF (a.bO ++ [(k, x)]) k = x
    rw [curB_snoc, if_pos ⟨rfl, by omega⟩]
  · show curB a.bF (a.bO ++ [(k, x)]) m = _
    rw [curB_snoc, if_neg (by omega)]
theorem CaS.Val.byp (h : a.Val n v) (k : Nat) (hk : k < n.bl) (x : Bk) {r : DRes} (hr1 : curB r.F r.O k = x) (hr2 : ∀ m, m ≠ k → curB r.F r.O m = curB a.bF a.bO m) (hr3 : r.F.length = n.bl) : ((a.bdev r).byp n k).Val n (updV v k x) := by
  unfold CaS.byp
  have hb : ∀ j, j < n.bl → (j = k ∨ (plc a.ps j).2 = false) → curB r.F r.O j = updV v k x j := fun j hj hd => by
    unfold updV
    by_cases e : j = k
    · subst e; rw [if_pos rfl]; exact hr1
    · rw [if_neg e, hr2 _ e]; exact h.bk j hj (hd.resolve_left e)
  split
  · next hg =>
    replace hg : getC a.ps (k : Int) = 0 := hg
    have hkp : k < a.ps.length := by rw [h.pl]; exact hk
    have hp : ∀ j, plc (dropL a.ps (k : Int)) j = if j = k then (-1, false) else plc a.ps j := fun j => by
      unfold dropL
      rw [if_pos hg, Int.toNat_natCast, plc_set _ _ _ _ hkp]
    refine ⟨h.dl, hr3, by show (dropL a.ps (k : Int)).length = n.bl; unfold dropL; rw [if_pos hg, List.length_set]; exact h.pl, fun j hj hd => ?_, fun j hj hd => ?_⟩
    · refine hb j hj ?_
      replace hd : (plc (dropL a.ps (k : Int)) j).2 = false := hd
      rw [hp] at hd
      split at hd
      · next e => exact .inl e
      · exact .inr hd
    · replace hd : plc (dropL a.ps (k : Int)) j ≠ (-1, false) := hd
      show curB a.dF a.dO (n.slot0 + (plc (dropL a.ps (k : Int)) j).1.toNat) = updV v k x j ∧ upd1 a.sums (k : Int) none (j : Int) = some (crcC (updV v k x j))
      rw [hp] at hd ⊢
      split at hd
      · exact absurd rfl hd
      · next e =>
        rw [if_neg e, upd1, if_neg (by omega), updV, if_neg e]
        exact h.ins j hj hd
  · next hg =>
    replace hg : ¬ getC a.ps (k : Int) = 0 := hg
    have hkp : k < a.ps.length := by rw [h.pl]; exact hk
    have hp : plc a.ps k = (-1, false) := Decidable.of_not_not fun hn => hg (getC_iff.2 ⟨k, hkp, rfl, hn⟩)
    refine ⟨h.dl, hr3, h.pl, fun j hj hd => hb j hj (.inr hd), fun j hj hd => ?_⟩
    replace hd : plc a.ps j ≠ (-1, false) := hd
    have e : j ≠ k := fun e => hd (e ▸ hp)
    rw [updV, if_neg e]
    exact h.ins j hj hd
theorem CaS.Val.bypassed (h : a.Val n v) (hP : a.NoP) (k : Nat) (hk : k < n.bl) (x : Bk) : (a.bypassed n k x).2 = 0 ∧ (a.bypassed n k x).1.NoP ∧ (a.bypassed n k x).1.Val n (updV v k x) := by
  have hr := h.same (a.same_roomed n)
  have hPr := (a.same_roomed n).noP hP
  obtain ⟨h1, h2, h3, h4, h5⟩ := hr.bw hPr k hk x
  unfold CaS.bypassed
  rw [if_neg (fun e => e hP.roomed), if_neg (fun e => e h2)]
  refine ⟨rfl, ?_, hr.byp k hk x h3 h4 h5⟩
  unfold CaS.byp
  split
  · exact h1
  · exact h1
theorem TieL.open_ne {bl sl : Nat} {ps : List (Int × Bool)} {st K : List Int} {s k : Nat} (h : TieL bl sl ps st K (some s)) (hk : k < bl) (hn : plc ps k ≠ (-1, false)) : (plc ps k).1.toNat ≠ s := fun e => by
  have h1 := (h.opn s (h.olt s rfl)).2 rfl
  have h2 := h.live k hk hn
  rw [e, h1] at h2
  cases h2
theorem CaS.Val.filled (h : a.Val n v) (hP : a.NoP) {s : Nat} (ht : a.Tie n (some s)) (blk : Int) (x : Bk) : (a.filled n s blk x).2 = 0 ∧ (a.filled n s blk x).1.NoP ∧ (a.filled n s blk x).1.Val n v ∧ curB (a.filled n s blk x).1.dF (a.filled n s blk x).1.dO (n.slot0 + s) = x ∧ (a.filled n s blk x).1.bF = a.bF ∧ (a.filled n s blk x).1.bO = a.bO := by
  have hs := ht.olt s rfl
  have hl := h.dl
  have hsz : n.slot0 + s < a.dF.length := by rw [hl]; unfold CaN.slot0 CaN.size; omega
  unfold CaS.filled
  rw [hP.1, writeR_nil, if_pos rfl]
  refine ⟨rfl, ⟨rfl, hP.2⟩, ⟨hl, h.bl, h.pl, h.bk, fun j hj hd => ?_⟩, ?_, rfl, rfl⟩
  · have hne := TieL.open_ne ht hj hd
    refine ⟨?_, (h.ins j hj hd).2⟩
    show curB a.dF (a.dO ++ [(n.slot0 + s, x)]) _ = _
    rw [curB_snoc, if_neg (by intro e; exact hne (Nat.add_left_cancel e.1).symm)]
    exact (h.ins j hj hd).1
  · show curB a.dF (a.dO ++ [(n.slot0 + s, x)]) _ = _
    rw [curB_snoc, if_pos ⟨rfl, hsz⟩]
theorem CaS.Val.putted (h : a.Val n v) {s k : Nat} (ht : a.Tie n (some s)) (hk : k < n.bl) (x : Bk) (d : Bool) (hd : curB a.dF a.dO (n.slot0 + s) = x) (hb : d = false → curB a.bF a.bO k = x) (ho : ∀ m, m ≠ k → m < n.bl → (plc a.ps m).2 = false → curB a.bF a.bO m = v m) :
    (a.putted n (k : Int) s (crcC x) d).1.Val n (updV v k x) := by
  obtain ⟨h1, h2, h3, h4, -, -⟩ := TieL.put ht hk d
  have hkp : k < a.ps.length := by rw [h.pl]; exact hk
  have hp : ∀ j, plc (putL a.ps n.sl (k : Int) (s : Int) d) j = if j = k then ((s : Int), d) else plc a.ps j := fun j => by
    rw [h1, plc_set _ _ _ _ hkp]
  have key : (a.given n (k : Int) s (crcC x) d).Val n (updV v k x) := by
    refine ⟨h.dl, h.bl, by show (putL a.ps n.sl (k : Int) (s : Int) d).length = n.bl; rw [h1, List.length_set]; exact h.pl, fun j hj hq => ?_, fun j hj hq => ?_⟩
    · replace hq : (plc (putL a.ps n.sl (k : Int) (s : Int) d) j).2 = false := hq
      show curB a.bF a.bO j = _
      rw [hp] at hq
      unfold updV
      split at hq
      · next e => subst e; rw [if_pos rfl]; exact hb hq
      · next e => rw [if_neg e]; exact ho j e hj hq
    · replace hq : plc (putL a.ps n.sl (k : Int) (s : Int) d) j ≠ (-1, false) := hq
      show curB a.dF a.dO (n.slot0 + (plc (putL a.ps n.sl (k : Int) (s : Int) d) j).1.toNat) = updV v k x j ∧ upd1 a.sums (k : Int) (some (crcC x)) (j : Int) = some (crcC (updV v k x j))
      rw [hp] at hq ⊢
      unfold updV upd1
      by_cases e : j = k
      · subst e
        rw [if_pos rfl, if_pos rfl, if_pos rfl, Int.toNat_natCast]
        exact ⟨hd, rfl⟩
      · have e2 : ¬ ((j : Int) = (k : Int)) := by omega
        simp only [if_neg e] at hq
        simp only [if_neg e, if_neg e2]
        exact h.ins j hj hq
  unfold CaS.putted
  split
  · exact ⟨key.dl, key.bl, key.pl, key.bk, key.ins⟩
  · exact ⟨key.dl, key.bl, key.pl, key.bk, key.ins⟩
theorem CaS.NoP.putted (h : a.NoP) (k : Int) (s sum : Nat) (d : Bool) : (a.putted n k s sum d).1.NoP := by
  unfold CaS.putted
  split
  · exact h
  · exact h
theorem CaS.Val.backed (h : a.Val n v) (hP : a.NoP) (ht : a.Tie n none) (h1 : 1 ≤ a.next) (hj : 4 ≤ n.jo) (k : Nat) (hk : k < n.bl) (x : Bk) : (a.backed n k x).2 = 0 ∧ (a.backed n k x).1.NoP ∧ (a.backed n k x).1.Val n (updV v k x) := by
  have hv := h.takes (by omega)
  have hp := CaS.NoP.takes (by omega) hP ht
  unfold CaS.backed
  rw [if_neg (fun e => e hp.1)]
  rcases CaS.Tie.takes ht h1 hj with ⟨h2, h3, -, s, h4, h5⟩ | ⟨h2, h5⟩
  · rw [if_neg (by rw [h2]; decide), h4, Int.toNat_natCast]
    obtain ⟨f1, f2, f3, f4, f5, f6⟩ := hv.filled hp.2 h5 (k : Int) x
    have ft := (CaS.Tie.filled h5 (k : Int) x).resolve_right (fun e => e.1 f1)
    unfold CaS.backS
    rw [if_neg (fun e => e f1)]
    exact ⟨rfl, CaS.NoP.putted f2 _ _ _ _, f3.putted ft.2 hk x true f4 (fun e => by cases e) (fun m _ hm hd => f3.bk m hm hd)⟩
  · rw [if_pos h2]
    exact hv.bypassed hp.2 k hk x
theorem CaS.Val.thru (h : a.Val n v) (hP : a.NoP) (ht : a.Tie n none) (h1 : 1 ≤ a.next) (hj : 4 ≤ n.jo) (k : Nat) (hk : k < n.bl) (x : Bk) : (a.thru n k x).2 = 0 ∧ (a.thru n k x).1.NoP ∧ (a.thru n k x).1.Val n (updV v k x) := by
  have hv := h.takes (by omega)
  have hp := CaS.NoP.takes (by omega) hP ht
  unfold CaS.thru
  rw [if_neg (fun e => e hp.1)]
  rcases CaS.Tie.takes ht h1 hj with ⟨h2, h3, -, s, h4, h5⟩ | ⟨h2, h5⟩
  · rw [if_neg (by rw [h2]; decide), h4, Int.toNat_natCast]
    obtain ⟨b1, b2, b3, b4, b5⟩ := hv.bw hp.2 k hk x
    unfold CaS.thruS
    rw [if_neg (fun e => e b2)]
    generalize hb : (a.takes n).1.bdev (writeR (a.takes n).1.bF (a.takes n).1.bO (a.takes n).1.bP k x) = b at *
    have ht' : b.Tie n (some s) := by rw [← hb]; exact h5
    have hs := h5.olt s rfl
    have hdl : b.dF.length = n.size := by rw [← hb]; exact hv.dl
    have hsz : n.slot0 + s < b.dF.length := by rw [hdl]; unfold CaN.slot0 CaN.size; omega
    have hbF : b.bF = (writeR (a.takes n).1.bF (a.takes n).1.bO (a.takes n).1.bP k x).F := by rw [← hb]
    have hbO : b.bO = (writeR (a.takes n).1.bF (a.takes n).1.bO (a.takes n).1.bP k x).O := by rw [← hb]
    have hps : b.ps = (a.takes n).1.ps := by rw [← hb]
    have hsu : b.sums = (a.takes n).1.sums := by rw [← hb]
    have hdF : b.dF = (a.takes n).1.dF := by rw [← hb]
    have hdO : b.dO = (a.takes n).1.dO := by rw [← hb]
    rw [← hbF, ← hbO] at b3 b4
    rw [← hbF] at b5
    unfold CaS.thruF CaS.filled
    rw [b1.1, writeR_nil, if_pos rfl]
    dsimp only
    rw [if_neg (fun e => e rfl)]
    have hc : ∀ j, j < n.bl → plc b.ps j ≠ (-1, false) → curB b.dF (b.dO ++ [(n.slot0 + s, x)]) (n.slot0 + (plc b.ps j).1.toNat) = v j := fun j hj' hd => by
      have hne := TieL.open_ne ht' hj' hd
      rw [curB_snoc, if_neg (by intro e; exact hne (Nat.add_left_cancel e.1).symm), hdF, hdO]
      have := hv.ins j hj' (by rw [← hps]; exact hd)
      rw [← hps] at this
      exact this.1
    refine ⟨rfl, CaS.NoP.putted (a := { b with G := _, dF := _, dO := _, dP := [] }) ⟨rfl, b1.2⟩ _ _ _ _, ?_⟩
    obtain ⟨p1, p2, p3, p4, -, -⟩ := TieL.put ht' hk false
    have hkp : k < b.ps.length := by rw [ht'.hpl]; exact hk
    have hp : ∀ j, plc (putL b.ps n.sl (k : Int) (s : Int) false) j = if j = k then ((s : Int), false) else plc b.ps j := fun j => by
      rw [p1, plc_set _ _ _ _ hkp]
    have key : (CaS.given n { b with G := putG b.G s (k : Int), dF := b.dF, dO := b.dO ++ [(n.slot0 + s, x)], dP := [] } (k : Int) s (crcC x) false).Val n (updV v k x) := by
      refine ⟨hdl, b5, by show (putL b.ps n.sl (k : Int) (s : Int) false).length = n.bl; rw [p1, List.length_set]; exact ht'.hpl, fun j hj hq => ?_, fun j hj hq => ?_⟩
      · replace hq : (plc (putL b.ps n.sl (k : Int) (s : Int) false) j).2 = false := hq
        show curB b.bF b.bO j = _
        rw [hp] at hq
        unfold updV
        split at hq
        · next e => subst e; rw [if_pos rfl]; exact b3
        · next e =>
          rw [if_neg e, b4 _ e]
          exact hv.bk j hj (by rw [← hps]; exact hq)
      · replace hq : plc (putL b.ps n.sl (k : Int) (s : Int) false) j ≠ (-1, false) := hq
        show curB b.dF (b.dO ++ [(n.slot0 + s, x)]) (n.slot0 + (plc (putL b.ps n.sl (k : Int) (s : Int) false) j).1.toNat) = updV v k x j ∧ upd1 b.sums (k : Int) (some (crcC x)) (j : Int) = some (crcC (updV v k x j))
        rw [hp] at hq ⊢
        unfold updV upd1
        by_cases e : j = k
        · subst e
          rw [if_pos rfl, if_pos rfl, if_pos rfl, Int.toNat_natCast]
          exact ⟨by rw [curB_snoc, if_pos ⟨rfl, hsz⟩], rfl⟩
        · have e2 : ¬ ((j : Int) = (k : Int)) := by omega
          simp only [if_neg e] at hq
          simp only [if_neg e, if_neg e2]
          refine ⟨hc j hj hq, ?_⟩
          rw [hsu]
          exact (hv.ins j hj (by rw [← hps]; exact hq)).2
    unfold CaS.putted
    split
    · exact ⟨key.dl, key.bl, key.pl, key.bk, key.ins⟩
    · exact ⟨key.dl, key.bl, key.pl, key.bk, key.ins⟩
  · rw [if_pos h2]
    exact hv.bypassed hp.2 k hk x
end
end Go.Proofs.YtnadilfobmgebaaGreatDoor
