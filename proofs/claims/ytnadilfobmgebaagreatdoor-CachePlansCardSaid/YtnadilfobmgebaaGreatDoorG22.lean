/- Len and Dirty. The iterator that All gives, whatever the span; the plain law of parted spans. Two slices in boxes, one appended to beside the other. A quiet region (it draws its order, and only reads) in a round's frame. A drawn region in a round's frame, walked by the words for plain frames. The intent that a sector is: GetIntent. A sector of numbers, read again: the plain law. -/
import Derived.Test.YtnadilfobmgebaaGreatDoorG20
import Derived.RangeFuncNested
import Derived.Maps.OwnIn
import Derived.Shelf.RegionOpen
import Derived.Deep.RegionHeld
import Derived.Test.YtnadilfobmgebaaGreatDoorG12
namespace Go.Proofs.YtnadilfobmgebaaGreatDoor
open Go Go.RowKit Go.Shelf
attribute [local go_sem] Oper.semAt_some
def Gives (w : World) (gf : Nat) (lb : Array Value) (xs : List It9) : Prop :=
  (∀ args w, (callFunc gf args).run Tryz.prog w = .ok (.enter gf args) w) ∧
  ∀ (n : Nat), 2 ≤ n → ∀ (S : Nat → Prop), (∀ j, S j → w.heap.size ≤ j) → ∀ w2, Below w.heap.size w w2 →
    SeqStopsK Fence.wide n Tryz.prog gf lb enc9 (Upd S) (fun ys => ys = xs) (fun pre => pre <+: xs) xs.length w2
theorem Gives.below {w w' : World} {gf : Nat} {lb : Array Value} {xs : List It9} (h : Gives w gf lb xs) (hb : Below w.heap.size w w') : Gives w' gf lb xs :=
  ⟨h.1, fun n hn S hS w2 hw2 => h.2 n hn S (fun j hj => Nat.le_trans hb.size (hS j hj)) w2 (hb.trans (hw2.mono hb.size))⟩
/-! ### spans in parts -/
def plBox (x : It9) (pb : Nat) (W : World) : Prop := W.heap[pb]? = some (.cells #[.int .i64 x.2.1, .bool x.2.2] 108 (0, 0))
theorem block_kept {X Y : World} {row : Option Nat} {b : Nat} {cs : Array Value} {T : TypeId} (h : X.heap[b]? = some (.cells cs T (0, 0))) (hg : X.grownBy Y row) (hr : ∀ r, row = some r → ∃ o : Obj, X.heap[r]? = some o ∧ o.isCells = false) : Y.heap[b]? = some (.cells cs T (0, 0)) :=
  (hg.block b (Array.getElem?_eq_some_iff.1 h).1 (fun e => by
    obtain ⟨o, ho, hc⟩ := hr b e.symm
    rw [h] at ho
    cases ho
    simp [Obj.isCells] at hc)).trans h
theorem plBox_own (B : Nat) (x : It9) (pb : Nat) : OwnFrom B (fun (_ : Unit) W => plBox x pb W) := fun _ _ _ _ hs hg hr => block_kept hs hg (fun r e => (hr r e).2)
end Go.Proofs.YtnadilfobmgebaaGreatDoor
namespace Go.Proofs.YtnadilfobmgebaaGreatDoor
open Go
def noDefer (o : Oper) : Bool := match o.op with
  | .defer _ => false
  | _ => true
theorem noDefer_spec {o : Oper} (h : noDefer o = true) (c : Call) : o.op ≠ .defer c := by
  intro e
  unfold noDefer at h
  rw [e] at h
  cases h
section
variable {F : Fence} {n : Nat} {P : Program} {ops : Array Oper} {Q : Exit → Act → World → Prop}
end
set_option maxRecDepth 100000 in
theorem run_eqIn_place (w : World) (d : Nat) (a c : Int) (b e : Bool) : (Op.equalIn (d + 1 + 1) 108 (.agg #[.int .i64 a, .bool b]) (.agg #[.int .i64 c, .bool e])).run Tryz.prog w = .ok (a == c && b == e) w := by
  have hu := Tryz.underlying108
  obtain ⟨fs, hfs⟩ : ∃ fs, Tryz.prog.underlying 108 = some (.struct fs) := ⟨_, hu⟩
  have hF : Tryz.prog.fieldsOf 108 = fs := by unfold Program.fieldsOf; rw [hfs]
  have hfe := hfs.symm.trans hu
  injection hfe with hfe
  injection hfe with hfe
  have h2 := fun (x y : Bool) => run_equalIn_bool (P := Tryz.prog) w d 4 x y Tryz.underlying4
  rw [run_equalIn_struct w (d + 1) _ _ _ (by rw [hF]; exact hfs) (by kernel_rfl), hF, hfe]
  by_cases hac : a = c
  · simp [Op.eqFields, go_sem, h2, hac, Result.andThen]
    by_cases hbe : b = e <;> simp [hbe]
  · simp [Op.eqFields, go_sem, hac, Result.andThen]
section
variable {n l0 : Nat} {P : Program} {ops : Array Oper} {Q : Exit → Act → World → Prop}
theorem rows_in {row : String} {args : Array Value} {w : World} {R : Value → World → Prop} (h : Go.Rows P row args w R) : RowsIn (Fence.wide.inRound l0) n P row args w R :=
  fun c cs _ => let ⟨v, w', r, s⟩ := h c cs; ⟨v, w', r, stepsIn_wide.2 s⟩
theorem calls_in {f : FuncId} {args : Array Value} {w : World} {R : Ending → World → Prop} (h : Calls P f args w R) : CallsIn (Fence.wide.inRound l0) n P f args w R :=
  CallsIn.inRound l0 (callsIn_wide.2 h)
theorem uponIn_of_upon {o : Oper} {a : Act} {next : Act → World → Prop} {r : Result Next} (h : o.upon P a next Q r) : o.uponIn (Fence.wide.inRound l0) n P a next Q r := by
  unfold Oper.upon at h
  split at h
  · exact h
  · exact h
  · exact h
  · exact ⟨(fun e => by cases e), calls_in h⟩
  · exact ⟨(fun e => by cases e), rows_in h⟩
  · exact h
  · exact h.elim
theorem wpOpIn_of_wpOp (hQ : ¬ LetsOut Q) (hnd : ∀ (j : Nat) (o : Oper), ops[j]? = some o → noDefer o = true) {i : Nat} {K K' : Act → World → Prop} (hK : ∀ a w, K a w → K' a w) {a : Act} {w : World} (h : wpOp P ops Q i K a w) :
    wpOpIn (Fence.wide.inRound l0) n P ops Q i K' a w := by
  have h' := wpOp_mono hK h
  unfold wpOp at h'
  unfold wpOpIn
  cases ho : ops[i]? with
  | none => simp only [ho] at h' ⊢; exact h'
  | some o =>
    have hnd' := hnd i o ho
    simp only [ho] at h' ⊢
    by_cases hw : Region.wanted o (yielded ops a.tmps) = true
    · rw [if_pos hw] at h' ⊢
      rcases h' with h' | ⟨-, h'⟩
      · refine ⟨fun _ _ => trivial, ?_⟩
        rw [show (Fence.wide.inRound l0).round = some l0 from rfl, Oper.semAt_some _ _ _ (noDefer_spec hnd')]
        exact uponIn_of_upon h'
      · exact absurd h' hQ
    · rw [if_neg hw] at h' ⊢
      exact ⟨fun _ _ => trivial, h'⟩
theorem wpAnyIn_of_wpAny (hQ : ¬ LetsOut Q) (md : Region.Mode) (hnd : ∀ (j : Nat) (o : Oper), ops[j]? = some o → noDefer o = true) : ∀ (fuel : Nat) (listed : Array Bool) (a : Act) (w : World),
    wpAny P md ops Q fuel listed a w → wpAnyIn (Fence.wide.inRound l0) n P md ops Q fuel listed a w
  | 0, _, _, _, h => h
  | fuel + 1, _, _, _, h => ⟨h.1, fun i hi => wpOpIn_of_wpOp hQ hnd (fun a' w' h' => wpAnyIn_of_wpAny hQ md hnd fuel _ a' w' h') (h.2 i hi)⟩
theorem wpIn_region_held_round {S : World → Prop} {id : Nat} {a : Act} {w : World} {l : List Oper} (hQ : ¬ LetsOut Q) (hm : P.follows .mixedOrders = true) (hnd : l.all noDefer = true) (hS : S w.drew)
    (h : S w.drew → wpAnyH P .any l.toArray Q S l.toArray.size (Array.replicate l.toArray.size false) a w.drew) : (Code.region id l.toArray true).wpIn (Fence.wide.inRound l0) n P Q a w :=
  wpIn_region_any hm (wpAnyIn_of_wpAny hQ .any (fun j o ho => List.all_eq_true.1 hnd o (by rw [List.getElem?_toArray] at ho; exact List.mem_of_getElem? ho)) _ _ _ _ (wpAny_of_held _ _ _ _ (h hS)))
end
end Go.Proofs.YtnadilfobmgebaaGreatDoor
namespace Go.Proofs.YtnadilfobmgebaaGreatDoor
open Go Go.RowKit
def numsI (b : Bk) : List Nat := numsAt b 1 [6, 6, 2, 2]
def okI (b : Bk) : Bool := okGet b 4 [6, 6, 2, 2] (mayI (natsI (numsI b)))
def cdI (b : Bk) : Int := cdGet b 4 [6, 6, 2, 2] (mayI (natsI (numsI b)))
theorem drop_take_seal {x : Bk} (hx : x.length = 64) {p s : Nat} (h : p + s ≤ 60) : ((sealB x).drop p).take s = (x.drop p).take s := by
  apply List.ext_getElem?
  intro i
  by_cases hi : i < s
  · rw [List.getElem?_take_of_lt hi, List.getElem?_take_of_lt hi, List.getElem?_drop, List.getElem?_drop]
    unfold sealB
    rw [List.getElem?_append_left (by simp; omega), List.getElem?_take_of_lt (by omega)]
  · rw [List.getElem?_take_eq_none (by omega), List.getElem?_take_eq_none (by omega)]
theorem drop_take_pad {pre mid post : List UInt8} : ((padB (pre ++ mid ++ post)).drop pre.length).take mid.length = mid := by
  unfold padB
  rw [List.append_assoc, List.append_assoc, List.drop_left' rfl, List.take_left' rfl]
theorem numsAt_sect (l : List (Nat × Nat)) : ∀ (pre : List UInt8), pre.length + sizes l ≤ 60 → (∀ p ∈ l, p.1 < 256 ^ p.2) → numsAt (sealB (padB (pre ++ encB l))) pre.length (l.map (·.2)) = l.map (·.1) := by
  induction l with
  | nil => intro pre _ _; rfl
  | cons p l ih =>
    intro pre hp hf
    have hsz : sizes (p :: l) = p.2 + sizes l := by simp [sizes]
    have he : encB (p :: l) = lowB p.1 p.2 ++ encB l := by simp [encB]
    simp only [List.map_cons, numsAt, List.cons.injEq]
    constructor
    · rw [drop_take_seal (padB_len (by rw [List.length_append, encB_len]; omega)) (by omega), he, ← List.append_assoc]
      have := drop_take_pad (pre := pre) (mid := lowB p.1 p.2) (post := encB l)
      rw [lowB_len] at this
      rw [this]
      exact numB_low _ _ (hf p (by simp))
    · have := ih (pre ++ lowB p.1 p.2) (by rw [List.length_append, lowB_len]; omega) (fun q hq => hf q (by simp [hq]))
      rw [List.length_append, lowB_len, List.append_assoc] at this
      rw [he]; exact this
theorem sect_ok {k : Nat} (hk : k < 256) {l : List (Nat × Nat)} (hl : Fits l) (mb : Bool) : okGet (sectB k l) k (l.map (·.2)) mb = mb ∧ numsAt (sectB k l) 1 (l.map (·.2)) = l.map (·.1) := by
  have hpl := sect_pad_len (k := k) hl.2
  have hsz : (l.map (·.2)).sum = sizes l := rfl
  have hbl : (lowB k 1 ++ encB l).length = 1 + sizes l := by rw [List.length_append, lowB_len, encB_len]
  have h1 : sealB (sectB k l) = sectB k l := sealB_seal hpl
  have h2 : numB ((sectB k l).take 1) = k := by
    have := drop_take_seal hpl (p := 0) (s := 1) (by omega)
    rw [List.drop_zero, List.drop_zero] at this
    have h3 := drop_take_pad (pre := []) (mid := lowB k 1) (post := encB l)
    rw [lowB_len, List.nil_append, List.length_nil, List.drop_zero] at h3
    unfold sectB
    rw [this, h3]
    exact numB_low _ _ (by omega)
  have h3 : endB (sectB k l) (1 + sizes l) = true := by
    unfold endB sectB
    rw [drop_take_seal hpl (by have := hl.2; omega)]
    unfold padB
    rw [← hbl, List.drop_left' rfl, List.all_eq_true]
    intro x hx
    have := List.mem_of_mem_take hx
    rw [List.mem_replicate] at this
    simpa using this.2
  refine ⟨?_, ?_⟩
  · unfold okGet
    rw [hsz, h1, h2, h3]
    simp
  · have := numsAt_sect l (lowB k 1) (by rw [lowB_len]; have := hl.2; omega) (fun p hp => (hl.1 p hp).1)
    rw [lowB_len] at this
    exact this
theorem sect_ne {k : Nat} (hk : 0 < k) (hk2 : k < 256) {l : List (Nat × Nat)} (hl : Fits l) : sectB k l ≠ zB := by
  intro e
  have h := (sect_ok hk2 hl true).1
  rw [e] at h
  unfold okGet at h
  have h0 : numB (zB.take 1) = 0 := by decide
  rw [h0] at h
  have : decide (0 = k) = false := by simp; omega
  rw [this] at h
  simp at h
theorem intent_get {a b c d : Nat} (h : mayI [(a : Int), b, c, d] = true) : okI (intentB a b c d) = true ∧ numsI (intentB a b c d) = [a, b, c, d] := by
  obtain ⟨⟨⟨a1, a2⟩, b1, b2⟩, c1, d1, d2, c2⟩ := mayI_iff.1 h
  have hf := intent_fits (a := a) (b := b) (c := c) (d := d) (by omega) (by omega) (by omega) (by omega)
  obtain ⟨h1, h2⟩ := sect_ok (k := 4) (by decide) hf (mayI (natsI (numsI (intentB a b c d))))
  have h3 : numsI (intentB a b c d) = [a, b, c, d] := h2
  refine ⟨?_, h3⟩
  unfold okI
  rw [show okGet (intentB a b c d) 4 [6, 6, 2, 2] (mayI (natsI (numsI (intentB a b c d)))) = mayI (natsI (numsI (intentB a b c d))) from h1, h3]
  exact h
end Go.Proofs.YtnadilfobmgebaaGreatDoor
