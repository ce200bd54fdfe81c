/- What is read of sectors that were written since, and a check of them. An array of integers as an argument of a card: its cells. Things of a log, counted by their numbers in a map: the plain part; a map's look-up without ok; one thing of a slice of things. Things of a log (lavabo/forms.Cert), counted by their numbers in a map. Things of a log (lavabo/forms.Failure), counted by their numbers in a map. -/
import Derived.Test.YtnadilfobmgebaaGreatDoorG39
import Derived.Test.YtnadilfobmgebaaGreatDoorCards
import Derived.Test.YtnadilfobmgebaaGreatDoorTie
import Derived.ProofKit
import Derived.OpenShut
import Derived.Deep.DeepHandedRow
import Derived.Test.YtnadilfobmgebaaGreatDoorG05
import Derived.Deep.LoopGhost
namespace Go.Proofs.YtnadilfobmgebaaGreatDoor
open Go Go.RowKit
theorem curB_own {F : List Bk} {O : List (Nat × Bk)} {s : Nat} {y : Bk} (hs : s < F.length) : curB F (O ++ [(s, y)]) s = y := by
  unfold curB
  have e : flushF F (O ++ [(s, y)]) = (flushF F O).set s y := by simp [flushF, List.foldl_append]
  rw [e, List.getD_eq_getElem?_getD, List.getElem?_set_self (by rw [flushF_len]; exact hs)]; rfl
theorem curB_else {F : List Bk} {O : List (Nat × Bk)} {s t : Nat} {y : Bk} (h : s ≠ t) : curB F (O ++ [(s, y)]) t = curB F O t := by
  unfold curB
  have e : flushF F (O ++ [(s, y)]) = (flushF F O).set s y := by simp [flushF, List.foldl_append]
  rw [e, List.getD_eq_getElem?_getD, List.getD_eq_getElem?_getD, List.getElem?_set_ne h]
theorem curB_nil (F : List Bk) (s : Nat) : curB F [] s = F.getD s zB := rfl
def getCd (K : Kind) (y : Bk) (j : Nat) : Int := if y = zB then 14 else if K.ok y = true ∧ K.nm y = (j : Int) then 0 else 12
theorem get_cur {K : Kind} {zs : List Value} {F : List Bk} {O : List (Nat × Bk)} {base k j : Nat} {y : Bk} (hj : j < k) (h : curB F O (base + j) = y) :
    logGetR K zs base k (j : Int) F O [] = (if getCd K y j = 0 then K.ds y else zs, getCd K y j, []) := by
  unfold logGetR getCd
  rw [if_neg (by omega), if_neg (by decide), Int.toNat_natCast, h]
  by_cases h1 : y = zB
  · rw [if_pos h1, if_pos h1, if_neg (by decide)]; rfl
  · rw [if_neg h1, if_neg h1]
    by_cases h2 : K.ok y = true ∧ K.nm y = (j : Int)
    · rw [if_pos h2, if_pos h2, if_pos rfl]; rfl
    · rw [if_neg h2, if_neg h2, if_neg (by decide)]; rfl
theorem fine_cur {K : Kind} {zs : List Value} {F : List Bk} {O : List (Nat × Bk)} {base k j : Nat} (hj : j < k) : fine K zs base k F O j ↔ getCd K (curB F O (base + j)) j ≠ 12 := by
  unfold fine
  rw [get_cur (y := curB F O (base + j)) hj rfl]
  show getCd K _ j = 0 ∨ getCd K _ j = 14 ↔ _
  generalize curB F O (base + j) = y
  unfold getCd
  (repeat' split) <;> simp
theorem fine_zero {K : Kind} {zs : List Value} {F : List Bk} {O : List (Nat × Bk)} {base k j : Nat} (hj : j < k) (h : curB F O (base + j) = zB) : fine K zs base k F O j := by
  rw [fine_cur hj, h, getCd, if_pos rfl]; decide
theorem check_one {k at' : Nat} {O : List (Nat × Bk)} {y : Bk} (_hk : k ≤ 12) (ha : at' < k) (hO : ∀ t, t ≠ 11 + at' → curB (devL k) O t = (devL k).getD t zB) (hy : curB (devL k) O (11 + at') = y) :
    (fineAll kindI zsI 11 k (devL k) O ∧ fineAll kindC zsC (11 + k) k (devL k) O ∧ fineAll kindF zsF (11 + k + k) k (devL k) O) ↔ getCd kindI y at' ≠ 12 := by
  have hz : ∀ t, t ≠ 11 + at' → 11 ≤ t → t < 13 + 3 * k → curB (devL k) O t = zB := fun t h1 h2 h3 => by
    rw [hO t h1, List.getD_eq_getElem?_getD, devL_zero k t (by omega) h3]; rfl
  constructor
  · rintro ⟨h, -, -⟩
    have := (fine_cur ha).1 (h at' ha)
    rw [hy] at this
    exact this
  · intro h
    refine ⟨fun j hj => ?_, fun j hj => fine_zero hj (hz _ (by omega) (by omega) (by omega)), fun j hj => fine_zero hj (hz _ (by omega) (by omega) (by omega))⟩
    by_cases e : j = at'
    · subst e
      rw [fine_cur ha, hy]; exact h
    · exact fine_zero hj (hz _ (by omega) (by omega) (by omega))
set_option maxRecDepth 100000 in
theorem run_eqIn_span (w : World) (d : Nat) (a b c e : Int) : (Op.equalIn (d + 1 + 1) 37 (.agg #[.int .i64 a, .int .i64 b]) (.agg #[.int .i64 c, .int .i64 e])).run Tryz.prog w = .ok (a == c && b == e) w := by
  have hu := Tryz.underlying37
  obtain ⟨fs, hfs⟩ : ∃ fs, Tryz.prog.underlying 37 = some (.struct fs) := ⟨_, hu⟩
  have hF : Tryz.prog.fieldsOf 37 = fs := by unfold Program.fieldsOf; rw [hfs]
  have hfe := hfs.symm.trans hu
  injection hfe with hfe
  injection hfe with hfe
  rw [run_equalIn_struct w (d + 1) _ _ _ (by rw [hF]; exact hfs) (by kernel_rfl), hF, hfe]
  by_cases hac : a = c
  · simp [Op.eqFields, go_sem, hac, Result.andThen]
    by_cases hbe : b = e <;> simp [hbe]
  · simp [Op.eqFields, go_sem, hac, Result.andThen]
set_option maxRecDepth 100000 in
theorem run_eqIn_intent (w : World) (d : Nat) (a0 a1 a2 a3 b0 b1 b2 b3 : Int) :
    (Op.equalIn (d + 1 + 1 + 1) 39 (.agg #[.int .i64 a0, .int .i64 a1, .int .i64 a2, .int .i64 a3]) (.agg #[.int .i64 b0, .int .i64 b1, .int .i64 b2, .int .i64 b3])).run Tryz.prog w =
      .ok (a0 == b0 && (a1 == b1 && (a2 == b2 && a3 == b3))) w := by
  have hu := Tryz.underlying39
  obtain ⟨fs, hfs⟩ : ∃ fs, Tryz.prog.underlying 39 = some (.struct fs) := ⟨_, hu⟩
  have hF : Tryz.prog.fieldsOf 39 = fs := by unfold Program.fieldsOf; rw [hfs]
  have hfe := hfs.symm.trans hu
  injection hfe with hfe
  injection hfe with hfe
  have h2 := run_eqIn_span w d a2 a3 b2 b3
  rw [run_equalIn_struct w (d + 1 + 1) _ _ _ (by rw [hF]; exact hfs) (by kernel_rfl), hF, hfe]
  by_cases h0 : a0 = b0
  · by_cases h1 : a1 = b1
    · simp [Op.eqFields, go_sem, h0, h1, h2, Result.andThen]
      by_cases h3 : a2 = b2 <;> by_cases h4 : a3 = b3 <;> simp [h3, h4]
    · simp [Op.eqFields, go_sem, h0, h1, Result.andThen]
  · simp [Op.eqFields, go_sem, h0, Result.andThen]
theorem run_eq_intent (w : World) (a0 a1 a2 a3 b0 b1 b2 b3 : Int) :
    (binOp .eql 39 (.agg #[.int .i64 a0, .int .i64 a1, .int .i64 a2, .int .i64 a3]) (.agg #[.int .i64 b0, .int .i64 b1, .int .i64 b2, .int .i64 b3])).run Tryz.prog w = .ok (.bool (a0 == b0 && (a1 == b1 && (a2 == b2 && a3 == b3)))) w := by
  simp only [binOp]
  simp [show Op.equal 39 (.agg #[.int .i64 a0, .int .i64 a1, .int .i64 a2, .int .i64 a3]) (.agg #[.int .i64 b0, .int .i64 b1, .int .i64 b2, .int .i64 b3]) = Op.equalIn (9997 + 1 + 1 + 1) 39 (.agg #[.int .i64 a0, .int .i64 a1, .int .i64 a2, .int .i64 a3]) (.agg #[.int .i64 b0, .int .i64 b1, .int .i64 b2, .int .i64 b3]) from rfl, run_eqIn_intent w 9997 a0 a1 a2 a3 b0 b1 b2 b3]
theorem run_neq_intent (w : World) (a0 a1 a2 a3 b0 b1 b2 b3 : Int) :
    (binOp .neq 39 (.agg #[.int .i64 a0, .int .i64 a1, .int .i64 a2, .int .i64 a3]) (.agg #[.int .i64 b0, .int .i64 b1, .int .i64 b2, .int .i64 b3])).run Tryz.prog w = .ok (.bool (!(a0 == b0 && (a1 == b1 && (a2 == b2 && a3 == b3))))) w := by
  simp only [binOp]
  simp [show Op.equal 39 (.agg #[.int .i64 a0, .int .i64 a1, .int .i64 a2, .int .i64 a3]) (.agg #[.int .i64 b0, .int .i64 b1, .int .i64 b2, .int .i64 b3]) = Op.equalIn (9997 + 1 + 1 + 1) 39 (.agg #[.int .i64 a0, .int .i64 a1, .int .i64 a2, .int .i64 a3]) (.agg #[.int .i64 b0, .int .i64 b1, .int .i64 b2, .int .i64 b3]) from rfl, run_eqIn_intent w 9997 a0 a1 a2 a3 b0 b1 b2 b3]
theorem getint_any {w : World} (hN : Nib w) (b : Bk) (hb : b.length = 64) : Calls Tryz.prog 16 #[.agg (bkC b).toArray] w fun e w' =>
    ∃ x0 x1 x2 x3 cd : Int, e = .returned (.tuple #[.agg #[.int .i64 x0, .int .i64 x1, .int .i64 x2, .int .i64 x3], .int .i64 cd]) ∧ (kindI.ok b = true → cd = 0 ∧ kindI.ds b = intC x0 x1 x2 x3 ∧ x0 = kindI.nm b) ∧ (kindI.ok b = false → cd ≠ 0) ∧ Below w.heap.size w w' :=
  (GetI_any hN b hb).mono fun e w' ⟨⟨rs, h1, h2, he⟩, hbw⟩ => by
    obtain ⟨k1, k2, -, -, -⟩ := kindI_ok b hb
    by_cases ho : kindI.ok b = true
    · obtain ⟨n0, n1, n2, n3, hn⟩ : ∃ n0 n1 n2 n3, numsI b = [n0, n1, n2, n3] := ⟨_, _, _, _, rfl⟩
      have hr := h1 ho
      rw [hn] at hr
      refine ⟨n0, n1, n2, n3, cdI b, by rw [he, hr]; rfl, fun _ => ⟨k1 ho, ?_, ?_⟩, fun h => (by rw [ho] at h; cases h), hbw⟩
      · show ints (natsI (numsI b)) = _; rw [hn]; rfl
      · show _ = (((numsI b).getD 0 0 : Nat) : Int); rw [hn]; rfl
    · have ho' : kindI.ok b = false := by simpa using ho
      refine ⟨0, 0, 0, 0, cdI b, by rw [he, h2 ho'], fun h => (by rw [ho'] at h; cases h), fun _ => k2 ho', hbw⟩
section
variable {S : Nat → Prop} {w : World} {li lc lf d k : Nat} {F : List Bk} {O : List (Nat × Bk)}
theorem lget17 (h : L17 S w li lc lf d k F O []) {j : Nat} {y : Bk} (hj : j < k) (hc : curB F O (11 + j) = y) : Calls Tryz.prog 18 #[ptr li, .int .i64 (j : Int)] w fun e w' =>
    ∃ y0 y1 y2 y3 cd : Int, e = .returned (.tuple #[.agg #[.int .i64 y0, .int .i64 y1, .int .i64 y2, .int .i64 y3], .int .i64 cd]) ∧ cd = getCd kindI y j ∧ (cd = 0 → kindI.ds y = intC y0 y1 y2 y3) ∧ (cd ≠ 0 → y0 = 0 ∧ y1 = 0 ∧ y2 = 0 ∧ y3 = 0) ∧ L17 S w' li lc lf d k F O [] ∧ Upd S w w' :=
  (l17_get h (j : Int)).mono fun e w' ⟨he, hl, hu⟩ => by
    rw [get_cur hj hc] at he hl
    obtain ⟨n0, n1, n2, n3, hn⟩ : ∃ n0 n1 n2 n3, numsI y = [n0, n1, n2, n3] := ⟨_, _, _, _, rfl⟩
    have hd : kindI.ds y = intC n0 n1 n2 n3 := by show ints (natsI (numsI y)) = _; rw [hn]; rfl
    by_cases hz : getCd kindI y j = 0
    · rw [hz] at he ⊢
      simp only [if_true] at he
      rw [hd] at he
      exact ⟨n0, n1, n2, n3, 0, he, rfl, fun _ => hd, fun e => (e rfl).elim, hl, hu⟩
    · rw [if_neg hz] at he
      exact ⟨0, 0, 0, 0, _, he, rfl, fun e => (hz e).elim, fun _ => ⟨rfl, rfl, rfl, rfl⟩, hl, hu⟩
theorem lwrite (h : L17 S w li lc lf d k F O []) (hO : O.length < 65000) (s : Nat) (hs : s < 13 + 3 * k) (y : Bk) (hy : y.length = 64) : Calls Tryz.prog 17 #[ptr d, .int .i64 (s : Int), .agg (bkC y).toArray] w fun e w' =>
    e = .returned (.int .i64 0) ∧ L17 S w' li lc lf d k F (O ++ [(s, y)]) [] ∧ Upd S w w' :=
  (dwriteR h.dv h.nS s (by rw [h.fl]; exact hs) y hy (by omega)).mono fun e w' ⟨he, hd, hu⟩ => ⟨he, h.turn hu hd rfl, hu⟩
end
section
variable {H : Type} {enc : TypeId × Value → H} {P : Program} {W : World} {base : Nat} {sp : Nat → Bool} {held : Bool} {t e : TypeId} {n : Nat} {q : IntKind}
theorem mapM_ints (he : P.underlying e = some (.int q)) {m : Nat} {cs : List Value} : ∀ (L : List Nat) (xs : List (DataW H × List MemPlace)),
    L.mapM (fun i => DataW.trod enc P W base sp held m e ((cs.drop (i * 1)).take 1)) = some xs →
    ∃ l : List Int, l.length = L.length ∧ xs = l.map (fun x => (.lit (.int q x), [])) ∧ (∀ x ∈ l, (Lit.int q x).wf = true) ∧ ∀ (p i : Nat), L[p]? = some i → cs[i]? = (l[p]?).map (Value.int q)
  | [], xs, h => by
    simp at h
    subst h
    exact ⟨[], rfl, rfl, fun _ h => by simp at h, fun _ _ h => by simp at h⟩
  | i :: L, xs, h => by
    rw [List.mapM_cons] at h
    simp only [bind, Option.bind_eq_some_iff, pure, Option.some.injEq] at h
    obtain ⟨y, hy, ys, hys, rfl⟩ := h
    obtain ⟨l, h1, rfl, h3, h4⟩ := mapM_ints he L ys hys
    obtain ⟨a, ea, rfl, wa⟩ := DataW.trod_int he hy
    refine ⟨a :: l, by simp [h1], rfl, fun x hx => ?_, fun p j hp => ?_⟩
    · rcases List.mem_cons.1 hx with rfl | hx
      · exact wa
      · exact h3 x hx
    · cases p with
      | zero =>
        simp at hp
        subst hp
        have : ((cs.drop (i * 1)).take 1)[0]? = some (.int q a) := by rw [ea]; rfl
        rw [List.getElem?_take_of_lt (by omega), List.getElem?_drop] at this
        simpa using this
      | succ p => simpa using h4 p j (by simpa using hp)
theorem open_arr_ints {r : Reach} {b0 : Nat} {v : Value} {d : DataW H} {ps : List MemPlace} (ht : P.underlying t = some (.array n e)) (he : P.underlying e = some (.int q)) (hc : P.cellsOf t = n) (he1 : P.cellsOf e = 1) (hval : Value.okWide P W r b0 t v) (hd : DataW.Trod enc P W base sp held t v d ps) :
    ∃ l : List Int, l.length = n ∧ v = .agg (l.map (Value.int q)).toArray ∧ d = .agg (l.map fun x => .lit (.int q x)) ∧ ps = [] ∧ ∀ x ∈ l, (Lit.int q x).wf = true := by
  simp only [Value.okWide, ht] at hval
  obtain ⟨cs, rfl, h2, -⟩ := hval
  rw [hc] at h2
  obtain ⟨fuel, hf⟩ := hd
  cases fuel with
  | zero => simp [DataW.trod] at hf
  | succ m =>
    rw [DataW.trod_step] at hf
    unfold DataW.trodStep at hf
    simp only [ht, Value.cells] at hf
    rw [if_pos (by rw [hc]; simpa using h2)] at hf
    simp only [Option.map_eq_some_iff, he1] at hf
    obtain ⟨ys, hy, e1⟩ := hf
    obtain ⟨l, h3, rfl, h5, h6⟩ := mapM_ints he _ ys hy
    rw [List.length_range] at h3
    simp only [Prod.mk.injEq] at e1
    refine ⟨l, h3, ?_, by rw [← e1.1]; simp [Function.comp_def], by rw [← e1.2]; simp [List.flatMap_eq_nil_iff], h5⟩
    congr 1
    apply Array.ext_getElem?
    intro i
    by_cases hi : i < n
    · have := h6 i i (by rw [List.getElem?_range hi])
      simpa using this
    · rw [Array.getElem?_eq_none (by omega), Array.getElem?_eq_none (by simp; omega)]
end
end Go.Proofs.YtnadilfobmgebaaGreatDoor
namespace Go.Proofs.YtnadilfobmgebaaGreatDoor
open Go Go.RowKit Go.Maps
theorem MapAt.look1 {w : World} {mb N : Nat} {f : Int → Option Nat} (h : MapAt w mb N f) {x : Int} (h1 : -9223372036854775808 ≤ x) (h2 : x < 9223372036854775808) :
    (Instr.lookup 168 (.map (some mb)) (.int .i64 x) false).run Tryz.prog w = .ok (.int .i64 (((f x).getD 0 : Nat) : Int)) w := by
  obtain ⟨D, ho, hf⟩ := h
  obtain ⟨v, ps, hr, hv⟩ := ho.lookup keyedI Tryz.underlying168 (zeroI w) (plainElem_int Tryz.underlying3 (by decide)) (keyI h1 h2)
  obtain ⟨c, rfl, hc, hwc⟩ := plainElem_int_inv Tryz.underlying3 hv
  simp only [Prod.mk.injEq] at hc
  rw [hr]
  have : c = (((f x).getD 0 : Nat) : Int) := by
    cases hx : f x with
    | none =>
      have h0 := (hf x).1
      rw [hx] at h0
      have := atKey_of_not_has (D := D) h0 (.lit (.int .i64 0))
      rw [this] at hc
      simp at hc
      simpa using hc.1.symm
    | some c' =>
      have := (hf x).2 c' hx (.lit (.int .i64 0))
      rw [this] at hc
      simp at hc
      simpa using hc.1.symm
  rw [this]
def bump (f : Int → Option Nat) (x : Int) : Int → Option Nat := upd1 f x (some ((f x).getD 0 + 1))
def bumps (f : Int → Option Nat) (l : List Int) : Int → Option Nat := l.foldl bump f
theorem bumps_snoc (f : Int → Option Nat) (l : List Int) (x : Int) : bumps f (l ++ [x]) = bump (bumps f l) x := by simp [bumps, List.foldl_append]
theorem bump_le {f : Int → Option Nat} {M : Nat} (h : ∀ x, (f x).getD 0 ≤ M) (x y : Int) : (bump f x y).getD 0 ≤ M + 1 := by
  unfold bump upd1
  split
  · have := h x; simp; omega
  · have := h y; omega
theorem bumps_le {l : List Int} : ∀ {f : Int → Option Nat} {M : Nat}, (∀ x, (f x).getD 0 ≤ M) → ∀ x, (bumps f l x).getD 0 ≤ M + l.length := by
  induction l with
  | nil => intro f M h x; exact h x
  | cons a l ih =>
    intro f M h x
    have := ih (f := bump f a) (M := M + 1) (bump_le h a) x
    simp only [bumps, List.foldl_cons, List.length_cons] at this ⊢
    omega
theorem bump_get (f : Int → Option Nat) (x y : Int) : (bump f x y).getD 0 = (f y).getD 0 + if y = x then 1 else 0 := by
  unfold bump upd1
  split
  · rename_i h; subst h; simp
  · simp
theorem bumps_get (l : List Int) : ∀ (f : Int → Option Nat) (y : Int), (bumps f l y).getD 0 = (f y).getD 0 + l.count y := by
  induction l with
  | nil => intro f y; simp [bumps]
  | cons a l ih =>
    intro f y
    have := ih (bump f a) y
    simp only [bumps, List.foldl_cons] at this ⊢
    rw [this, bump_get, List.count_cons]
    by_cases h : y = a
    · subst h; simp; omega
    · have : (a == y) = false := by simpa using fun e => h e.symm
      simp [h, this]
def thereL (K : Kind) (base n : Nat) (F : List Bk) (O : List (Nat × Bk)) : List Nat := (List.range n).filter fun j => getCd K (curB F O (base + j)) j == 0
theorem allTo_there (K : Kind) (zs : List Value) (base n : Nat) (F : List Bk) (O : List (Nat × Bk)) : allTo K zs base n F O n = (thereL K base n F O).map fun j => K.ds (curB F O (base + j)) := by
  unfold allTo thereL
  have h1 : (List.range n).filter (fun j => (logGetR K zs base n (j : Nat) F O []).2.1 == 0) = (List.range n).filter (fun j => getCd K (curB F O (base + j)) j == 0) :=
    List.filter_congr fun j hj => by rw [get_cur (y := curB F O (base + j)) (List.mem_range.1 hj) rfl]
  rw [h1]
  refine List.map_congr_left fun j hj => ?_
  obtain ⟨hr, hc⟩ := List.mem_filter.1 hj
  rw [get_cur (y := curB F O (base + j)) (List.mem_range.1 hr) rfl]
  rw [beq_iff_eq] at hc
  show (if getCd K (curB F O (base + j)) j = 0 then K.ds (curB F O (base + j)) else zs) = _
  rw [if_pos hc]
theorem thereL_nm {K : Kind} {base n : Nat} {F : List Bk} {O : List (Nat × Bk)} {j : Nat} (h : j ∈ thereL K base n F O) : j < n ∧ K.nm (curB F O (base + j)) = (j : Int) := by
  obtain ⟨hr, hc⟩ := List.mem_filter.1 h
  rw [beq_iff_eq] at hc
  refine ⟨List.mem_range.1 hr, ?_⟩
  unfold getCd at hc
  split at hc
  · simp at hc
  · split at hc
    · rename_i h2; exact h2.2
    · simp at hc
theorem thereL_count {K : Kind} {base n : Nat} {F : List Bk} {O : List (Nat × Bk)} (j : Nat) : ((thereL K base n F O).map fun (i : Nat) => (i : Int)).count (j : Int) = if j < n ∧ getCd K (curB F O (base + j)) j = 0 then 1 else 0 := by
  have hnd : ((thereL K base n F O).map fun (i : Nat) => (i : Int)).Nodup := by
    have : (thereL K base n F O).Nodup := List.Pairwise.filter _ List.nodup_range
    exact List.Pairwise.map _ (fun a b h e => h (Int.ofNat.inj e)) this
  rw [hnd.count]
  by_cases h : j < n ∧ getCd K (curB F O (base + j)) j = 0
  · rw [if_pos h]
    have hm : (j : Int) ∈ (thereL K base n F O).map fun (i : Nat) => (i : Int) := List.mem_map.2 ⟨j, List.mem_filter.2 ⟨List.mem_range.2 h.1, by simpa using h.2⟩, rfl⟩
    exact if_pos hm
  · rw [if_neg h]
    refine if_neg fun hm => h ?_
    obtain ⟨i, hi, he⟩ := List.mem_map.1 hm
    have : i = j := Int.ofNat.inj he
    subst this
    obtain ⟨hr, hc⟩ := List.mem_filter.1 hi
    exact ⟨List.mem_range.1 hr, by simpa using hc⟩
theorem flatten_at {k : Nat} {j : Nat} : ∀ {cs : List (List Value)} {p : Nat} (_ : ∀ x ∈ cs, x.length = k) (hp : p < cs.length) (_ : j < k), cs.flatten[p * k + j]? = cs[p][j]?
  | [], p, _, hp, _ => by simp at hp
  | x :: cs, 0, h, _, hj => by
    rw [List.flatten_cons, Nat.zero_mul, Nat.zero_add, List.getElem?_append_left (by rw [h x (by simp)]; exact hj)]; rfl
  | x :: cs, p + 1, h, hp, hj => by
    have hx := h x (by simp)
    rw [List.flatten_cons, List.getElem?_append_right (by rw [hx, Nat.succ_mul]; omega), hx]
    have := flatten_at (cs := cs) (p := p) (fun y hy => h y (by simp [hy])) (by simpa using hp) hj
    simp only [List.getElem_cons_succ]
    rw [← this]
    congr 1
    rw [Nat.succ_mul]; omega
theorem Rd.thing_at {w : World} {k n : Nat} {v : Value} {cs : List (List Value)} (h : Rd w k v n cs.flatten) (hk : ∀ x ∈ cs, x.length = k) (h0 : 0 < k) {p : Nat} (hp : p < cs.length) :
    ∃ bl off cap, v = .slice (some ⟨bl, off, none⟩) n cap ∧ w.rangeAt bl (off + p * k) cs[p] := by
  have hn : 0 < n := by
    have := h.1
    rw [flatten_len hk] at this
    cases n with
    | zero =>
      rw [Nat.zero_mul] at this
      rcases Nat.mul_eq_zero.1 this with h1 | h1 <;> omega
    | succ n => omega
  obtain ⟨bl, off, cap, he, -, hc⟩ := h.at hn h0
  refine ⟨bl, off, cap, he, fun i u hu => ?_⟩
  have hi : i < k := by
    rw [← hk cs[p] (List.getElem_mem hp)]
    by_cases hl : i < cs[p].length
    · exact hl
    · rw [List.getElem?_eq_none (by omega)] at hu; cases hu
  have := hc (p * k + i) u (by rw [flatten_at hk hp hi]; exact hu)
  rw [← this]
  congr 2
  omega
set_option maxRecDepth 100000 in
theorem tellsC_waits (W : World) (a : Int) (xs : List Value) (hx : xs[0]? = some (.int .i64 a)) (_hl : (Tryz.prog.info? 54).map (·.size) = some xs.length) : Calls Tryz.prog 80 #[.agg xs.toArray] W fun e W' => e = .returned (.int .i64 a) ∧ Below W.heap.size W W' := by
  have hg := heap_alloc_last W (.cells xs.toArray 54) rfl
  have c0 : (W.alloc (.cells xs.toArray 54)).cell? ⟨W.heap.size, 0, none⟩ = some (.int .i64 a) := (cell_of_block hg 0).trans (by rw [List.getElem?_toArray]; exact hx)
  have hb : Below W.heap.size W (W.alloc (.cells xs.toArray 54)) := (Below.refl _ _).alloc (Nat.le_refl _) _
  have HB := Lib.hid hb
  clear hg hb hx
  go_enter Tryz.func80, Tryz.ntmps80
  go_wp2
  go_ret
  exact ⟨rfl, HB.out⟩
def headsC (k : Nat) (F : List Bk) (O : List (Nat × Bk)) : List Int := (thereL kindC (11 + k) k F O).map fun (i : Nat) => (i : Int)
def GathC (S : Nat → Prop) (w : World) (li lc lf d k : Nat) (F : List Bk) (O : List (Nat × Bk)) (mb N : Nat) (f : Int → Option Nat) (e : Ending) (w' : World) : Prop :=
  e = .returned (.int .i64 0) ∧ L17 S w' li lc lf d k F O [] ∧ MapAt w' mb (N + k) (bumps f (headsC k F O)) ∧ Upd (fun j => S j ∨ j = mb) w w'
set_option maxRecDepth 100000 in
set_option maxHeartbeats 2000000 in
theorem gatherC {S : Nat → Prop} {w : World} {li lc lf d k : Nat} {F : List Bk} {O : List (Nat × Bk)} (h : L17 S w li lc lf d k F O []) (hk : k ≤ 1000) {mb N : Nat} {f : Int → Option Nat} (hm : MapAt w mb N f)
    (hne : ¬ S mb ∧ mb ≠ li ∧ mb ≠ lc ∧ mb ≠ lf ∧ mb ≠ 0) (hf : fineAll kindC zsC (11 + k) k F O) (hN : N ≤ 100000) (hc : ∀ x, (f x).getD 0 ≤ 100000) :
    Calls Tryz.prog 79 #[ptr lc, .map (some mb), .func (.func 80) #[] #[]] w (GathC S w li lc lf d k F O mb N f) := by
  have HA := Lib.hid (allCt h.c h.dv h.nS h.cS h.nib h.nibS tellsOpen2 (by have := h.fl; omega))
  have H := Lib.hid (And.intro h (And.intro hm (And.intro hne (And.intro hf (And.intro hN (And.intro hc hk))))))
  clear h hm hne hf hN hc hk
  go_enter Tryz.func79, Tryz.ntmps79
  go_wp2_with fail
  refine HA.out.mono ?_
  rintro e w2 (⟨-, v, rfl, T, hTS, hTn, hdT, hsl, hown, hfrom, hU⟩ | ⟨i, hi, -, hnf, rfl, -, -⟩)
  · rw [allTo_there] at hsl
    obtain ⟨cs, hcs⟩ : ∃ cs, cs = (thereL kindC (11 + k) k F O).map fun j => kindC.ds (curB F O ((11 + k) + j)) := ⟨_, rfl⟩
    rw [← hcs] at hsl
    have hg64 : ∀ s, (curB F O s).length = 64 := fun s => curB_len hdT.good s
    have hck : ∀ x ∈ cs, x.length = 6 := fun x hx => by
      rw [hcs] at hx
      obtain ⟨j, -, rfl⟩ := List.mem_map.1 hx
      exact (kindC_ok _ (hg64 _)).2.2.1
    have hc1 : ∀ x ∈ cs, ∀ u ∈ x, u.oneCell' = true := fun x hx => by
      rw [hcs] at hx
      obtain ⟨j, -, rfl⟩ := List.mem_map.1 hx
      exact (kindC_ok _ (hg64 _)).2.2.2.1
    have hlen : cs.length = (headsC k F O).length := by rw [hcs]; simp [headsC]
    have hlk : cs.length ≤ k := by
      rw [hcs, List.length_map]
      have := List.length_filter_le (fun j => getCd kindC (curB F O ((11 + k) + j)) j == 0) (List.range k)
      rw [List.length_range] at this
      exact this
    have hhd : ∀ p (hp : p < cs.length), ∃ a : Nat, a < k ∧ (cs[p])[0]? = some (.int .i64 (a : Int)) ∧ (headsC k F O)[p]? = some (a : Int) := fun p hp => by
      have hp' : p < (thereL kindC (11 + k) k F O).length := by rw [hcs, List.length_map] at hp; exact hp
      obtain ⟨h1, h2⟩ := thereL_nm (List.getElem_mem hp')
      refine ⟨_, h1, ?_, ?_⟩
      · have e : cs[p] = kindC.ds (curB F O ((11 + k) + (thereL kindC (11 + k) k F O)[p])) := by simp [hcs]
        rw [e, (kindC_ok _ (hg64 _)).2.2.2.2, h2]
      · unfold headsC
        rw [List.getElem?_map, List.getElem?_eq_getElem hp']; rfl
    obtain ⟨hs, hhs⟩ : ∃ hs, hs = headsC k F O := ⟨_, rfl⟩
    rw [← hhs] at hlen hhd
    obtain ⟨ao, cap, rfl⟩ := hsl.rd.nil_iff
    obtain ⟨h, hm, hne, hf, hN, hc, hk⟩ := H.out
    have hm2 := hm.keep hU hne.1
    have HX := Lib.hid (And.intro hTS (And.intro hTn (And.intro hdT (And.intro hsl (And.intro hown (And.intro hfrom hU))))))
    have HC := Lib.hid (And.intro hck (And.intro hc1 (And.intro hlen (And.intro hlk (And.intro hhd hhs)))))
    have HM := Lib.hid hm2
    have hL2 := h.turn hU (hdT.wide hTS) rfl
    have HL2 := Lib.hid hL2
    have hmb : ∀ g, (Value.slice ao cs.length cap).ownBlock = some g → g ≠ mb := fun g hg e => by
      have := hfrom g hg
      have := hm.lt
      omega
    have HB := Lib.hid hmb
    clear h hm hne hf hN hc hk hTS hTn hdT hsl hown hfrom hU hck hc1 hlen hlk hhd hhs hm2 hcs hg64 hL2 hmb HA
    go_wp2
    go_loopw [21] (fun s21 wr => ∃ p : Nat, p ≤ cs.length ∧ s21 = .int .i64 p ∧ MapAt wr mb (N + p) (bumps f (hs.take p)) ∧ Upd (fun j => j = mb) w2 wr) (fun s21 _ => cs.length - (intOf s21).toNat)
    case atStart => exact ⟨0, Nat.zero_le _, rfl, HM.out, Upd.refl _ _⟩
    case round =>
      obtain ⟨p, hp, rfl, hmr, hur⟩ := hrel
      by_cases hlt : p < cs.length
      · obtain ⟨hck, hc1, hlen, hlk, hhd, hhs⟩ := HC.out
        obtain ⟨a, ha, hx0, hx1⟩ := hhd p hlt
        have hslr := HX.out.2.2.2.1.keep_ne hur (fun e => HB.out _ e rfl)
        obtain ⟨bl, off, cp, he, rP⟩ := hslr.rd.thing_at hck (by decide) hlt
        cases he
        have hx6 := hck cs[p] (List.getElem_mem hlt)
        have hx1c := hc1 cs[p] (List.getElem_mem hlt)
        obtain ⟨xs, hxs⟩ : ∃ xs, xs = cs[p] := ⟨_, rfl⟩
        rw [← hxs] at rP hx6 hx1c hx0
        have hsi : Hid ((Tryz.prog.info? 54).map (·.size) = some xs.length) := by show _ = _; rw [hx6]; exact infoCe
        have hle := bumps_le (l := hs.take p) H.out.2.2.2.2.2.1 (a : Int)
        have hlp : (hs.take p).length ≤ 1000 := by rw [List.length_take]; have := H.out.2.2.2.2.2.2; omega
        have htk : hs.take (p + 1) = hs.take p ++ [(a : Int)] := by rw [List.take_add_one, hx1]; rfl
        have HP := Lib.hid (And.intro hx6 (And.intro hx1c (And.intro hmr (And.intro hur (And.intro hle (And.intro hlp (And.intro htk hx0)))))))
        have h1k : a < 1000 ∧ p < 1000 := by have := H.out.2.2.2.2.2.2; exact ⟨by omega, by omega⟩
        have HK := Lib.hid h1k
        have hp9 : p < 1000 := h1k.2
        have hA := heap_alloc_last wr (.cells xs.toArray 54) rfl
        have rA := range_of_block hA
        have hua : Upd (fun _ => False) wr (wr.alloc (.cells xs.toArray 54)) := (Upd.refl _ _).alloc _
        have HA := Lib.hid hua
        clear hck hc1 hlen hlk hhd hhs hx0 hx1 hslr hx6 hx1c hxs hmr hur hle hlp htk ha h1k hA hua
        have htell := Lib.hid (tellsC_waits (wr.alloc (.cells xs.toArray 54)) (a : Int) xs HP.out.2.2.2.2.2.2.2 hsi.out)
        go_wp2_with (first
          | (refine wpList_store_new rfl _ _ _ rfl _ _ _ rfl rfl (by rw [HP.out.1]; rfl) hsi.out HP.out.2.1 ?_)
          | (refine wpList_load_mid rfl _ _ rfl _ _ rfl _ _ rP Tryz.underlying54 rfl hsi.out ?_)
          | (refine wpList_load_mid rfl _ _ rfl _ _ rfl _ _ rA Tryz.underlying54 rfl hsi.out ?_)
          | fail)
        refine htell.out.mono ?_
        rintro e w5 ⟨rfl, hb5⟩
        have hu5 : Upd (fun _ => False) wr w5 := HA.out.trans (Upd.of_below hb5)
        have hm5 := HP.out.2.2.1.keep hu5 (fun h => h)
        have hlk := hm5.look1 (x := (a : Int)) (by omega) (by have := HK.out.1; omega)
        obtain ⟨cnt, hcnt⟩ : ∃ cnt, cnt = ((bumps f (hs.take p)) (a : Int)).getD 0 := ⟨_, rfl⟩
        have hcl : cnt ≤ 101000 := by rw [hcnt]; have := HP.out.2.2.2.2.1; have := HP.out.2.2.2.2.2.1; omega
        rw [← hcnt] at hlk
        obtain ⟨w6, hst, hm6, hu6, hz6⟩ := hm5.store (x := (a : Int)) (by omega) (by have := HK.out.1; omega) (cnt + 1) (by omega) (by unfold maxLen; have := H.out.2.2.2.2.1; have := HK.out.2; omega)
        have hst' : (Instr.mapUpdate 168 (.map (some mb)) (.int .i64 (a : Int)) (.int .i64 ((cnt : Int) + 1))).run Tryz.prog w5 = .ok () w6 := hst
        have hwr : IntKind.i64.wrap ((cnt : Int) + 1) = (cnt : Int) + 1 := IntWalk.i64_in _ (by omega)
        have H6 := Lib.hid (And.intro hm6 (And.intro hu5 (And.intro hu6 hcnt)))
        clear hm5 hm6 hu5 hu6 hb5 hz6 htell rP rA hst hcl hcnt
        go_wp2
        go_roundw
        case rel =>
          obtain ⟨hm6, hu5, hu6, hcnt⟩ := H6.out
          refine ⟨p + 1, by omega, by go_num, ?_, HP.out.2.2.2.1.trans ((hu5.mono (fun _ _ h => h.elim)).trans hu6)⟩
          rw [HP.out.2.2.2.2.2.2.1, bumps_snoc]
          show MapAt w6 mb (N + p + 1) (upd1 (bumps f (hs.take p)) (a : Int) (some (((bumps f (hs.take p)) (a : Int)).getD 0 + 1)))
          rw [← hcnt]
          exact hm6
        case measure => simp [intOf]; omega
      · obtain rfl : p = cs.length := by omega
        have hne := H.out.2.2.1
        have hE := Lib.hid (And.intro (HL2.out.keep hur (fun j hj => by rw [hj]; exact hne)) (And.intro hmr ((HX.out.2.2.2.2.2.2.mono (fun j _ h => Or.inl h)).trans (hur.mono (fun j _ h => Or.inr h)))))
        clear hne hmr hur
        go_wp2
        go_ret
        obtain ⟨h1, h2, h3⟩ := hE.out
        refine ⟨rfl, h1, ?_, h3⟩
        have e : hs.take cs.length = headsC k F O := by rw [HC.out.2.2.1, List.take_length, HC.out.2.2.2.2.2]
        rw [e] at h2
        exact h2.mono (by have := HC.out.2.2.2.1; omega)
  · exact absurd (H.out.2.2.2.1 i hi) hnf
set_option maxRecDepth 100000 in
theorem tellsF_waits (W : World) (a : Int) (xs : List Value) (hx : xs[0]? = some (.int .i64 a)) (_hl : (Tryz.prog.info? 58).map (·.size) = some xs.length) : Calls Tryz.prog 82 #[.agg xs.toArray] W fun e W' => e = .returned (.int .i64 a) ∧ Below W.heap.size W W' := by
  have hg := heap_alloc_last W (.cells xs.toArray 58) rfl
  have c0 : (W.alloc (.cells xs.toArray 58)).cell? ⟨W.heap.size, 0, none⟩ = some (.int .i64 a) := (cell_of_block hg 0).trans (by rw [List.getElem?_toArray]; exact hx)
  have hb : Below W.heap.size W (W.alloc (.cells xs.toArray 58)) := (Below.refl _ _).alloc (Nat.le_refl _) _
  have HB := Lib.hid hb
  clear hg hb hx
  go_enter Tryz.func82, Tryz.ntmps82
  go_wp2
  go_ret
  exact ⟨rfl, HB.out⟩
def headsF (k : Nat) (F : List Bk) (O : List (Nat × Bk)) : List Int := (thereL kindF (11 + k + k) k F O).map fun (i : Nat) => (i : Int)
def GathF (S : Nat → Prop) (w : World) (li lc lf d k : Nat) (F : List Bk) (O : List (Nat × Bk)) (mb N : Nat) (f : Int → Option Nat) (e : Ending) (w' : World) : Prop :=
  e = .returned (.int .i64 0) ∧ L17 S w' li lc lf d k F O [] ∧ MapAt w' mb (N + k) (bumps f (headsF k F O)) ∧ Upd (fun j => S j ∨ j = mb) w w'
set_option maxRecDepth 100000 in
set_option maxHeartbeats 2000000 in
theorem gatherF {S : Nat → Prop} {w : World} {li lc lf d k : Nat} {F : List Bk} {O : List (Nat × Bk)} (h : L17 S w li lc lf d k F O []) (hk : k ≤ 1000) {mb N : Nat} {f : Int → Option Nat} (hm : MapAt w mb N f)
    (hne : ¬ S mb ∧ mb ≠ li ∧ mb ≠ lc ∧ mb ≠ lf ∧ mb ≠ 0) (hf : fineAll kindF zsF (11 + k + k) k F O) (hN : N ≤ 100000) (hc : ∀ x, (f x).getD 0 ≤ 100000) :
    Calls Tryz.prog 81 #[ptr lf, .map (some mb), .func (.func 82) #[] #[]] w (GathF S w li lc lf d k F O mb N f) := by
  have HA := Lib.hid (allFa h.f h.dv h.nS h.fS h.nib h.nibS tellsOpen3 (by have := h.fl; omega))
  have H := Lib.hid (And.intro h (And.intro hm (And.intro hne (And.intro hf (And.intro hN (And.intro hc hk))))))
  clear h hm hne hf hN hc hk
  go_enter Tryz.func81, Tryz.ntmps81
  go_wp2_with fail
  refine HA.out.mono ?_
  rintro e w2 (⟨-, v, rfl, T, hTS, hTn, hdT, hsl, hown, hfrom, hU⟩ | ⟨i, hi, -, hnf, rfl, -, -⟩)
  · rw [allTo_there] at hsl
    obtain ⟨cs, hcs⟩ : ∃ cs, cs = (thereL kindF (11 + k + k) k F O).map fun j => kindF.ds (curB F O ((11 + k + k) + j)) := ⟨_, rfl⟩
    rw [← hcs] at hsl
    have hg64 : ∀ s, (curB F O s).length = 64 := fun s => curB_len hdT.good s
    have hck : ∀ x ∈ cs, x.length = 13 := fun x hx => by
      rw [hcs] at hx
      obtain ⟨j, -, rfl⟩ := List.mem_map.1 hx
      exact (kindF_ok _ (hg64 _)).2.2.1
    have hc1 : ∀ x ∈ cs, ∀ u ∈ x, u.oneCell' = true := fun x hx => by
      rw [hcs] at hx
      obtain ⟨j, -, rfl⟩ := List.mem_map.1 hx
      exact (kindF_ok _ (hg64 _)).2.2.2.1
    have hlen : cs.length = (headsF k F O).length := by rw [hcs]; simp [headsF]
    have hlk : cs.length ≤ k := by
      rw [hcs, List.length_map]
      have := List.length_filter_le (fun j => getCd kindF (curB F O ((11 + k + k) + j)) j == 0) (List.range k)
      rw [List.length_range] at this
      exact this
    have hhd : ∀ p (hp : p < cs.length), ∃ a : Nat, a < k ∧ (cs[p])[0]? = some (.int .i64 (a : Int)) ∧ (headsF k F O)[p]? = some (a : Int) := fun p hp => by
      have hp' : p < (thereL kindF (11 + k + k) k F O).length := by rw [hcs, List.length_map] at hp; exact hp
      obtain ⟨h1, h2⟩ := thereL_nm (List.getElem_mem hp')
      refine ⟨_, h1, ?_, ?_⟩
      · have e : cs[p] = kindF.ds (curB F O ((11 + k + k) + (thereL kindF (11 + k + k) k F O)[p])) := by simp [hcs]
        rw [e, (kindF_ok _ (hg64 _)).2.2.2.2, h2]
      · unfold headsF
        rw [List.getElem?_map, List.getElem?_eq_getElem hp']; rfl
    obtain ⟨hs, hhs⟩ : ∃ hs, hs = headsF k F O := ⟨_, rfl⟩
    rw [← hhs] at hlen hhd
    obtain ⟨ao, cap, rfl⟩ := hsl.rd.nil_iff
    obtain ⟨h, hm, hne, hf, hN, hc, hk⟩ := H.out
    have hm2 := hm.keep hU hne.1
    have HX := Lib.hid (And.intro hTS (And.intro hTn (And.intro hdT (And.intro hsl (And.intro hown (And.intro hfrom hU))))))
    have HC := Lib.hid (And.intro hck (And.intro hc1 (And.intro hlen (And.intro hlk (And.intro hhd hhs)))))
    have HM := Lib.hid hm2
    have hL2 := h.turn hU (hdT.wide hTS) rfl
    have HL2 := Lib.hid hL2
    have hmb : ∀ g, (Value.slice ao cs.length cap).ownBlock = some g → g ≠ mb := fun g hg e => by
      have := hfrom g hg
      have := hm.lt
      omega
    have HB := Lib.hid hmb
    clear h hm hne hf hN hc hk hTS hTn hdT hsl hown hfrom hU hck hc1 hlen hlk hhd hhs hm2 hcs hg64 hL2 hmb HA
    go_wp2
    go_loopw [21] (fun s21 wr => ∃ p : Nat, p ≤ cs.length ∧ s21 = .int .i64 p ∧ MapAt wr mb (N + p) (bumps f (hs.take p)) ∧ Upd (fun j => j = mb) w2 wr) (fun s21 _ => cs.length - (intOf s21).toNat)
    case atStart => exact ⟨0, Nat.zero_le _, rfl, HM.out, Upd.refl _ _⟩
    case round =>
      obtain ⟨p, hp, rfl, hmr, hur⟩ := hrel
      by_cases hlt : p < cs.length
      · obtain ⟨hck, hc1, hlen, hlk, hhd, hhs⟩ := HC.out
        obtain ⟨a, ha, hx0, hx1⟩ := hhd p hlt
        have hslr := HX.out.2.2.2.1.keep_ne hur (fun e => HB.out _ e rfl)
        obtain ⟨bl, off, cp, he, rP⟩ := hslr.rd.thing_at hck (by decide) hlt
        cases he
        have hx6 := hck cs[p] (List.getElem_mem hlt)
        have hx1c := hc1 cs[p] (List.getElem_mem hlt)
        obtain ⟨xs, hxs⟩ : ∃ xs, xs = cs[p] := ⟨_, rfl⟩
        rw [← hxs] at rP hx6 hx1c hx0
        have hsi : Hid ((Tryz.prog.info? 58).map (·.size) = some xs.length) := by show _ = _; rw [hx6]; exact infoFa
        have hle := bumps_le (l := hs.take p) H.out.2.2.2.2.2.1 (a : Int)
        have hlp : (hs.take p).length ≤ 1000 := by rw [List.length_take]; have := H.out.2.2.2.2.2.2; omega
        have htk : hs.take (p + 1) = hs.take p ++ [(a : Int)] := by rw [List.take_add_one, hx1]; rfl
        have HP := Lib.hid (And.intro hx6 (And.intro hx1c (And.intro hmr (And.intro hur (And.intro hle (And.intro hlp (And.intro htk hx0)))))))
        have h1k : a < 1000 ∧ p < 1000 := by have := H.out.2.2.2.2.2.2; exact ⟨by omega, by omega⟩
        have HK := Lib.hid h1k
        have hp9 : p < 1000 := h1k.2
        have hA := heap_alloc_last wr (.cells xs.toArray 58) rfl
        have rA := range_of_block hA
        have hua : Upd (fun _ => False) wr (wr.alloc (.cells xs.toArray 58)) := (Upd.refl _ _).alloc _
        have HA := Lib.hid hua
        clear hck hc1 hlen hlk hhd hhs hx0 hx1 hslr hx6 hx1c hxs hmr hur hle hlp htk ha h1k hA hua
        have htell := Lib.hid (tellsF_waits (wr.alloc (.cells xs.toArray 58)) (a : Int) xs HP.out.2.2.2.2.2.2.2 hsi.out)
        go_wp2_with (first
          | (refine wpList_store_new rfl _ _ _ rfl _ _ _ rfl rfl (by rw [HP.out.1]; rfl) hsi.out HP.out.2.1 ?_)
          | (refine wpList_load_mid rfl _ _ rfl _ _ rfl _ _ rP Tryz.underlying58 rfl hsi.out ?_)
          | (refine wpList_load_mid rfl _ _ rfl _ _ rfl _ _ rA Tryz.underlying58 rfl hsi.out ?_)
          | fail)
        refine htell.out.mono ?_
        rintro e w5 ⟨rfl, hb5⟩
        have hu5 : Upd (fun _ => False) wr w5 := HA.out.trans (Upd.of_below hb5)
        have hm5 := HP.out.2.2.1.keep hu5 (fun h => h)
        have hlk := hm5.look1 (x := (a : Int)) (by omega) (by have := HK.out.1; omega)
        obtain ⟨cnt, hcnt⟩ : ∃ cnt, cnt = ((bumps f (hs.take p)) (a : Int)).getD 0 := ⟨_, rfl⟩
        have hcl : cnt ≤ 101000 := by rw [hcnt]; have := HP.out.2.2.2.2.1; have := HP.out.2.2.2.2.2.1; omega
        rw [← hcnt] at hlk
        obtain ⟨w6, hst, hm6, hu6, hz6⟩ := hm5.store (x := (a : Int)) (by omega) (by have := HK.out.1; omega) (cnt + 1) (by omega) (by unfold maxLen; have := H.out.2.2.2.2.1; have := HK.out.2; omega)
        have hst' : (Instr.mapUpdate 168 (.map (some mb)) (.int .i64 (a : Int)) (.int .i64 ((cnt : Int) + 1))).run Tryz.prog w5 = .ok () w6 := hst
        have hwr : IntKind.i64.wrap ((cnt : Int) + 1) = (cnt : Int) + 1 := IntWalk.i64_in _ (by omega)
        have H6 := Lib.hid (And.intro hm6 (And.intro hu5 (And.intro hu6 hcnt)))
        clear hm5 hm6 hu5 hu6 hb5 hz6 htell rP rA hst hcl hcnt
        go_wp2
        go_roundw
        case rel =>
          obtain ⟨hm6, hu5, hu6, hcnt⟩ := H6.out
          refine ⟨p + 1, by omega, by go_num, ?_, HP.out.2.2.2.1.trans ((hu5.mono (fun _ _ h => h.elim)).trans hu6)⟩
          rw [HP.out.2.2.2.2.2.2.1, bumps_snoc]
          show MapAt w6 mb (N + p + 1) (upd1 (bumps f (hs.take p)) (a : Int) (some (((bumps f (hs.take p)) (a : Int)).getD 0 + 1)))
          rw [← hcnt]
          exact hm6
        case measure => simp [intOf]; omega
      · obtain rfl : p = cs.length := by omega
        have hne := H.out.2.2.1
        have hE := Lib.hid (And.intro (HL2.out.keep hur (fun j hj => by rw [hj]; exact hne)) (And.intro hmr ((HX.out.2.2.2.2.2.2.mono (fun j _ h => Or.inl h)).trans (hur.mono (fun j _ h => Or.inr h)))))
        clear hne hmr hur
        go_wp2
        go_ret
        obtain ⟨h1, h2, h3⟩ := hE.out
        refine ⟨rfl, h1, ?_, h3⟩
        have e : hs.take cs.length = headsF k F O := by rw [HC.out.2.2.1, List.take_length, HC.out.2.2.2.2.2]
        rw [e] at h2
        exact h2.mono (by have := HC.out.2.2.2.1; omega)
  · exact absurd (H.out.2.2.2.1 i hi) hnf
end Go.Proofs.YtnadilfobmgebaaGreatDoor
