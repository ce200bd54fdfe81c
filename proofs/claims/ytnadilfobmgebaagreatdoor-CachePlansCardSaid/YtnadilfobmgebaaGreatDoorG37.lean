/- The logs of a small cache (lavabolaw17.opened). Logs of a device, call by call. The three logs together: puts, Check. A device's Copy. The chapter's example of the logs (lavabolaw17.awake). The chapter's example of the logs: the walk. -/
import Derived.Test.YtnadilfobmgebaaGreatDoorG36
import Derived.Test.YtnadilfobmgebaaGreatDoorG32
import Derived.Test.YtnadilfobmgebaaGreatDoorG15
import Derived.Test.YtnadilfobmgebaaGreatDoorG03
import Derived.Test.YtnadilfobmgebaaGreatDoorG10
import Derived.Laws.EntriesVeiled
namespace Go.Proofs.YtnadilfobmgebaaGreatDoor
open Go Go.RowKit
def pb0 : Bk := (pagesB 0 []).getD 0 zB
def devL (k : Nat) : List Bk := (List.replicate (13 + 3 * k) zB).set 1 pb0
theorem devL_len (k : Nat) : (devL k).length = 13 + 3 * k := by simp [devL]
theorem devL_zero (k s : Nat) (h1 : s ≠ 1) (h2 : s < 13 + 3 * k) : (devL k)[s]? = some zB := by
  unfold devL
  rw [List.getElem?_set_ne (by omega), List.getElem?_replicate, if_pos h2]
structure L17 (S : Nat → Prop) (w : World) (li lc lf d k : Nat) (F : List Bk) (O : List (Nat × Bk)) (P : List Int) : Prop where
  i : LogI w li d 11 k 101
  c : LogC w lc d (11 + k) k 105
  f : LogF w lf d (11 + k + k) k 109
  dv : Dv S w d F O P
  fl : F.length = 13 + 3 * k
  nS : ∀ j, w.heap.size ≤ j → S j
  iS : ¬ S li
  cS : ¬ S lc
  fS : ¬ S lf
  nib : Nib w
  nibS : ¬ S 0
theorem putR_len (F : List Bk) (O : List (Nat × Bk)) (P : List Int) (s : Nat) (y : Bk) : (putR F O P s y).F.length = F.length := by
  unfold putR
  (repeat' split) <;> simp [flushR_len, writeR_F]
theorem logPutR_len (mb : Bool) (base n : Nat) (a : Int) (y : Bk) (F : List Bk) (O : List (Nat × Bk)) (P : List Int) : (logPutR mb base n a y F O P).F.length = F.length := by
  unfold logPutR
  (repeat' split) <;> simp [putR_len]
theorem putR_go (F : List Bk) (s : Nat) (y : Bk) : putR F [] [] s y = if F.getD s zB = y then ⟨F, [], [], 0⟩ else if F.getD s zB ≠ zB then ⟨F, [], [], 15⟩ else ⟨F.set s y, [], [], 0⟩ := by
  have h0 : fate [] = 0 := rfl
  have hc : curB F [] s = F.getD s zB := rfl
  unfold putR flushR writeR
  simp only [h0, hc, List.tail_nil, List.nil_append]
  rfl
section
variable {S : Nat → Prop} {w w' : World} {li lc lf d k : Nat} {F : List Bk} {O : List (Nat × Bk)} {P : List Int}
theorem L17.keep (h : L17 S w li lc lf d k F O P) {T : Nat → Prop} (hu : Upd T w w') (hT : ∀ j, T j → ¬ S j ∧ j ≠ li ∧ j ≠ lc ∧ j ≠ lf ∧ j ≠ 0) : L17 S w' li lc lf d k F O P :=
  { h with
    i := h.i.keep hu (fun hs => (hT _ hs).2.1 rfl)
    c := h.c.keep hu (fun hs => (hT _ hs).2.2.1 rfl)
    f := h.f.keep hu (fun hs => (hT _ hs).2.2.2.1 rfl)
    dv := h.dv.keep hu (fun j hj ht => (hT j ht).1 hj)
    nS := fun j hj => h.nS j (Nat.le_trans hu.size hj)
    nib := h.nib.keep hu (fun hs => (hT _ hs).2.2.2.2 rfl) }
theorem L17.new (h : L17 S w li lc lf d k F O P) (hu : Upd (fun _ => False) w w') : L17 S w' li lc lf d k F O P := h.keep hu (fun _ h => h.elim)
theorem L17.turn (h : L17 S w li lc lf d k F O P) {F' : List Bk} {O' : List (Nat × Bk)} {P' : List Int} (hu : Upd S w w') (hd : Dv S w' d F' O' P') (hl : F'.length = F.length) : L17 S w' li lc lf d k F' O' P' :=
  { h with
    i := h.i.keep hu h.iS
    c := h.c.keep hu h.cS
    f := h.f.keep hu h.fS
    dv := hd
    fl := hl.trans h.fl
    nS := fun j hj => h.nS j (Nat.le_trans hu.size hj)
    nib := h.nib.keep hu h.nibS }
def LOut (S : Nat → Prop) (w : World) (li lc lf d k : Nat) (r : DRes) (e : Ending) (w' : World) : Prop := e = .returned (.int .i64 r.cd) ∧ L17 S w' li lc lf d k r.F r.O r.P ∧ Upd S w w'
theorem l17_put (h : L17 S w li lc lf d k F O P) (hO : O.length < 65000) (x1 x2 x3 x4 : Int) :
    Calls Tryz.prog 23 #[ptr li, .agg (intC x1 x2 x3 x4).toArray] w (LOut S w li lc lf d k (logPutR (mayI [x1, x2, x3, x4]) 11 k x1 (intentB x1.toNat x2.toNat x3.toNat x4.toNat) F O P)) :=
  (putI h.i h.dv h.nS h.iS h.nib h.nibS tellsOpen1 (by have := h.fl; omega) hO x1 x2 x3 x4).mono fun _ _ ⟨he, hd, hu⟩ => ⟨he, h.turn hu hd (logPutR_len _ _ _ _ _ _ _ _), hu⟩
end
section
variable {S : Nat → Prop} {w w' : World} {li lc lf d k : Nat} {F : List Bk} {O : List (Nat × Bk)} {P : List Int}
end
def thB (id x : Nat) : Bk := intentB id id x 1
theorem thMay {id x : Nat} (h1 : id ≤ 1099511627776) (h2 : x ≤ 4095) : mayI [(id : Int), id, x, ((1 : Nat) : Int)] = true := mayI_iff.2 ⟨⟨⟨by omega, by omega⟩, by omega, by omega⟩, by omega, by omega, by omega, by omega⟩
theorem thB_get {id x : Nat} (h1 : id ≤ 1099511627776) (h2 : x ≤ 4095) : okI (thB id x) = true ∧ numsI (thB id x) = [id, id, x, 1] := intent_get (thMay h1 h2)
theorem thB_ne {id x : Nat} (h1 : id ≤ 1099511627776) (h2 : x ≤ 4095) : thB id x ≠ zB := sect_ne (by decide) (by decide) (intent_fits (by omega) (by omega) (by omega) (by omega))
theorem thB_inj {id x id' x' : Nat} (h1 : id ≤ 1099511627776) (h2 : x ≤ 4095) (h1' : id' ≤ 1099511627776) (h2' : x' ≤ 4095) (h : thB id x = thB id' x') : id = id' ∧ x = x' := by
  have a := (thB_get h1 h2).2
  rw [h, (thB_get h1' h2').2] at a
  simp at a
  exact ⟨a.1.symm, a.2.symm⟩
def thPut (F : List Bk) (k : Nat) (id x : Nat) : DRes := if k ≤ id then ⟨F, [], [], 17⟩ else if F.getD (11 + id) zB = thB id x then ⟨F, [], [], 0⟩ else if F.getD (11 + id) zB ≠ zB then ⟨F, [], [], 15⟩ else ⟨F.set (11 + id) (thB id x), [], [], 0⟩
theorem thPut_eq {F : List Bk} {k id x : Nat} (h1 : id ≤ 1099511627776) (h2 : x ≤ 4095) : logPutR (mayI [(id : Int), (id : Int), (x : Int), 1]) 11 k (id : Int) (intentB (id : Int).toNat (id : Int).toNat (x : Int).toNat (1 : Int).toNat) F [] [] = thPut F k id x := by
  have hm : mayI [(id : Int), (id : Int), (x : Int), 1] = true := thMay h1 h2
  rw [hm]
  unfold logPutR thPut
  simp only [Bool.true_eq_false, if_false, Int.toNat_natCast]
  by_cases hk : k ≤ id
  · rw [if_pos (Or.inr (by omega)), if_pos hk]
  · rw [if_neg (by omega), if_neg hk, putR_go]
    rfl
def aF : List Bk := (devL 3).set 12 (thB 1 4)
theorem a1 : thPut (devL 3) 3 1 4 = ⟨aF, [], [], 0⟩ := by
  have h0 : (devL 3).getD 12 zB = zB := by rw [List.getD_eq_getElem?_getD, devL_zero 3 12 (by omega) (by omega)]; rfl
  unfold thPut
  rw [if_neg (by omega)]
  rw [show 11 + 1 = 12 from rfl, h0, if_neg (fun e => thB_ne (by omega) (by omega) e.symm), if_neg (fun h => h rfl)]
  rfl
theorem aF_at : aF.getD 12 zB = thB 1 4 := by
  unfold aF
  rw [List.getD_eq_getElem?_getD, List.getElem?_set_self (by rw [devL_len]; omega)]; rfl
theorem a2 : thPut aF 3 1 4 = ⟨aF, [], [], 0⟩ := by
  unfold thPut
  rw [if_neg (by omega), show 11 + 1 = 12 from rfl, if_pos aF_at]
theorem a3 : thPut aF 3 1 5 = ⟨aF, [], [], 15⟩ := by
  unfold thPut
  rw [if_neg (by omega), show 11 + 1 = 12 from rfl, aF_at, if_neg (fun e => by have := (thB_inj (by omega) (by omega) (by omega) (by omega) e).2; omega), if_pos (thB_ne (by omega) (by omega))]
theorem get_zero {F : List Bk} {k j : Nat} (hj : j < k) (h : F.getD (11 + j) zB = zB) : logGetR kindI zsI 11 k (j : Int) F [] [] = (zsI, 14, []) := by
  unfold logGetR
  rw [if_neg (by omega), if_neg (by decide)]
  have : curB F [] (11 + (j : Int).toNat) = zB := by rw [Int.toNat_natCast]; exact h
  rw [if_pos this]
  rfl
theorem get_thing {F : List Bk} {k j x : Nat} (hj : j < k) (h1 : j ≤ 1099511627776) (h2 : x ≤ 4095) (h : F.getD (11 + j) zB = thB j x) : logGetR kindI zsI 11 k (j : Int) F [] [] = (intC j j x 1, 0, []) := by
  unfold logGetR
  rw [if_neg (by omega), if_neg (by decide)]
  have hc : curB F [] (11 + (j : Int).toNat) = thB j x := by rw [Int.toNat_natCast]; exact h
  obtain ⟨g1, g2⟩ := thB_get h1 h2
  have hd : kindI.ds (thB j x) = intC j j x 1 := by show ints (natsI (numsI (thB j x))) = _; rw [g2]; rfl
  have hn : kindI.nm (thB j x) = j := by show (((numsI (thB j x)).getD 0 0 : Nat) : Int) = _; rw [g2]; rfl
  rw [hc, if_neg (thB_ne h1 h2), if_pos ⟨g1, hn⟩, hd]
  rfl
theorem a4 : allTo kindI zsI 11 3 aF [] 3 = [intC 1 1 4 1] := by
  have z : ∀ s, s ≠ 12 → s ≠ 1 → s < 22 → aF.getD s zB = zB := fun s h1 h2 h3 => by
    unfold aF
    rw [List.getD_eq_getElem?_getD, List.getElem?_set_ne (by omega), devL_zero 3 s h2 (by omega)]; rfl
  have e0 := get_zero (F := aF) (k := 3) (j := 0) (by omega) (z 11 (by omega) (by omega) (by omega))
  have e1 := get_thing (F := aF) (k := 3) (j := 1) (x := 4) (by omega) (by omega) (by omega) aF_at
  have e2 := get_zero (F := aF) (k := 3) (j := 2) (by omega) (z 13 (by omega) (by omega) (by omega))
  rw [allTo_miss (i := 2) (by rw [e2]; decide), allTo_hit (i := 1) (by rw [e1]), allTo_miss (i := 0) (by rw [e0]; decide), e1]
  rfl
theorem a5 : ∀ j, j < 3 → fine kindI zsI 11 3 aF [] j := by
  have z : ∀ s, s ≠ 12 → s ≠ 1 → s < 22 → aF.getD s zB = zB := fun s h1 h2 h3 => by
    unfold aF
    rw [List.getD_eq_getElem?_getD, List.getElem?_set_ne (by omega), devL_zero 3 s h2 (by omega)]; rfl
  intro j hj
  rcases (show j = 0 ∨ j = 1 ∨ j = 2 by omega) with rfl | rfl | rfl
  · exact .inr (by rw [get_zero (F := aF) (k := 3) (j := 0) (by omega) (z 11 (by omega) (by omega) (by omega))])
  · exact .inl (by rw [get_thing (F := aF) (k := 3) (j := 1) (x := 4) (by omega) (by omega) (by omega) aF_at])
  · exact .inr (by rw [get_zero (F := aF) (k := 3) (j := 2) (by omega) (z 13 (by omega) (by omega) (by omega))])
theorem pa1 {S : Nat → Prop} {w : World} {li lc lf d : Nat} (h : L17 S w li lc lf d 3 (devL 3) [] []) :
    Calls Tryz.prog 23 #[ptr li, .agg (intC 1 1 4 1).toArray] w fun e w' => e = .returned (.int .i64 0) ∧ L17 S w' li lc lf d 3 aF [] [] ∧ Upd S w w' := by
  have := l17_put h (by simp) 1 1 4 1
  rw [show logPutR (mayI [1, 1, 4, 1]) 11 3 1 (intentB (1 : Int).toNat (1 : Int).toNat (4 : Int).toNat (1 : Int).toNat) (devL 3) [] [] = thPut (devL 3) 3 1 4 from thPut_eq (id := 1) (x := 4) (by omega) (by omega), a1] at this
  exact this
theorem pa2 {S : Nat → Prop} {w : World} {li lc lf d : Nat} (h : L17 S w li lc lf d 3 aF [] []) :
    Calls Tryz.prog 23 #[ptr li, .agg (intC 1 1 4 1).toArray] w fun e w' => e = .returned (.int .i64 0) ∧ L17 S w' li lc lf d 3 aF [] [] ∧ Upd S w w' := by
  have := l17_put h (by simp) 1 1 4 1
  rw [show logPutR (mayI [1, 1, 4, 1]) 11 3 1 (intentB (1 : Int).toNat (1 : Int).toNat (4 : Int).toNat (1 : Int).toNat) aF [] [] = thPut aF 3 1 4 from thPut_eq (id := 1) (x := 4) (by omega) (by omega), a2] at this
  exact this
end Go.Proofs.YtnadilfobmgebaaGreatDoor
