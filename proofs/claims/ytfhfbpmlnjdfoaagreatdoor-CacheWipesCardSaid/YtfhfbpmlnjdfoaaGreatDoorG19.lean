/- Len and Dirty. The iterator that All gives, whatever the span; the plain law of parted spans. Two slices in boxes, one appended to beside the other. A quiet region (it draws its order, and only reads) in a round's frame. A drawn region in a round's frame, walked by the words for plain frames. A map's look-up without ok. -/
import Derived.Test.YtfhfbpmlnjdfoaaGreatDoorG17
import Derived.RangeFuncNested
import Derived.Maps.OwnIn
import Derived.Shelf.RegionOpen
import Derived.Deep.RegionHeld
import Derived.Test.YtfhfbpmlnjdfoaaGreatDoorG04
namespace Go.Proofs.YtfhfbpmlnjdfoaaGreatDoor
open Go Go.RowKit Go.Shelf
attribute [local go_sem] Oper.semAt_some
/-! ### spans in parts -/
def plBox (x : It9) (pb : Nat) (W : World) : Prop := W.heap[pb]? = some (.cells #[.int .i64 x.2.1, .bool x.2.2] 95 (0, 0))
theorem block_kept {X Y : World} {row : Option Nat} {b : Nat} {cs : Array Value} {T : TypeId} (h : X.heap[b]? = some (.cells cs T (0, 0))) (hg : X.grownBy Y row) (hr : ∀ r, row = some r → ∃ o : Obj, X.heap[r]? = some o ∧ o.isCells = false) : Y.heap[b]? = some (.cells cs T (0, 0)) :=
  (hg.block b (Array.getElem?_eq_some_iff.1 h).1 (fun e => by
    obtain ⟨o, ho, hc⟩ := hr b e.symm
    rw [h] at ho
    cases ho
    simp [Obj.isCells] at hc)).trans h
theorem plBox_own (B : Nat) (x : It9) (pb : Nat) : OwnFrom B (fun (_ : Unit) W => plBox x pb W) := fun _ _ _ _ hs hg hr => block_kept hs hg (fun r e => (hr r e).2)
end Go.Proofs.YtfhfbpmlnjdfoaaGreatDoor
namespace Go.Proofs.YtfhfbpmlnjdfoaaGreatDoor
open Go
def noDefer (o : Oper) : Bool := match o.op with
  | .defer _ => false
  | _ => true
theorem noDefer_spec {o : Oper} (h : noDefer o = true) (c : Call) : o.op ≠ .defer c := by
  intro e
  unfold noDefer at h
  rw [e] at h
  cases h
set_option maxRecDepth 100000 in
theorem run_eqIn_place (w : World) (d : Nat) (a c : Int) (b e : Bool) : (Op.equalIn (d + 1 + 1) 95 (.agg #[.int .i64 a, .bool b]) (.agg #[.int .i64 c, .bool e])).run Tryz.prog w = .ok (a == c && b == e) w := by
  have hu := Tryz.underlying95
  obtain ⟨fs, hfs⟩ : ∃ fs, Tryz.prog.underlying 95 = some (.struct fs) := ⟨_, hu⟩
  have hF : Tryz.prog.fieldsOf 95 = fs := by unfold Program.fieldsOf; rw [hfs]
  have hfe := hfs.symm.trans hu
  injection hfe with hfe
  injection hfe with hfe
  have h2 := fun (x y : Bool) => run_equalIn_bool (P := Tryz.prog) w d 4 x y Tryz.underlying4
  rw [run_equalIn_struct w (d + 1) _ _ _ (by rw [hF]; exact hfs) (by kernel_rfl), hF, hfe]
  by_cases hac : a = c
  · simp [Op.eqFields, go_sem, h2, hac, Result.andThen]
    by_cases hbe : b = e <;> simp [hbe]
  · simp [Op.eqFields, go_sem, hac, Result.andThen]
set_option maxRecDepth 100000 in
theorem run_neq_place (w : World) (a c : Int) (b d : Bool) : (binOp .neq 95 (.agg #[.int .i64 a, .bool b]) (.agg #[.int .i64 c, .bool d])).run Tryz.prog w = .ok (.bool (!(a == c && b == d))) w := by
  simp only [binOp]
  simp [show Op.equal 95 (.agg #[.int .i64 a, .bool b]) (.agg #[.int .i64 c, .bool d]) = Op.equalIn (9998 + 1 + 1) 95 (.agg #[.int .i64 a, .bool b]) (.agg #[.int .i64 c, .bool d]) from rfl, run_eqIn_place w 9998 a c b d]
section
variable {n l0 : Nat} {P : Program} {ops : Array Oper} {Q : Exit → Act → World → Prop}
theorem rows_in {row : String} {args : Array Value} {w : World} {R : Value → World → Prop} (h : Go.Rows P row args w R) : RowsIn (Fence.wide.inRound l0) n P row args w R :=
  fun c cs _ => let ⟨v, w', r, s⟩ := h c cs; ⟨v, w', r, stepsIn_wide.2 s⟩
theorem calls_in {f : FuncId} {args : Array Value} {w : World} {R : Ending → World → Prop} (h : Calls P f args w R) : CallsIn (Fence.wide.inRound l0) n P f args w R :=
  CallsIn.inRound l0 (callsIn_wide.2 h)
theorem uponIn_of_upon {o : Oper} {a : Act} {next : Act → World → Prop} {r : Result Next} (h : o.upon P a next Q r) : o.uponIn (Fence.wide.inRound l0) n P a next Q r := by
  unfold Oper.upon at h
  split at h
  · exact h
  · exact h
  · exact h
  · exact ⟨(fun e => by cases e), calls_in h⟩
  · exact ⟨(fun e => by cases e), rows_in h⟩
  · exact h
  · exact h.elim
theorem wpOpIn_of_wpOp (hQ : ¬ LetsOut Q) (hnd : ∀ (j : Nat) (o : Oper), ops[j]? = some o → noDefer o = true) {i : Nat} {K K' : Act → World → Prop} (hK : ∀ a w, K a w → K' a w) {a : Act} {w : World} (h : wpOp P ops Q i K a w) :
    wpOpIn (Fence.wide.inRound l0) n P ops Q i K' a w := by
  have h' := wpOp_mono hK h
  unfold wpOp at h'
  unfold wpOpIn
  cases ho : ops[i]? with
  | none => simp only [ho] at h' ⊢; exact h'
  | some o =>
    have hnd' := hnd i o ho
    simp only [ho] at h' ⊢
    by_cases hw : Region.wanted o (yielded ops a.tmps) = true
    · rw [if_pos hw] at h' ⊢
      rcases h' with h' | ⟨-, h'⟩
      · refine ⟨fun _ _ => trivial, ?_⟩
        rw [show (Fence.wide.inRound l0).round = some l0 from rfl, Oper.semAt_some _ _ _ (noDefer_spec hnd')]
        exact uponIn_of_upon h'
      · exact absurd h' hQ
    · rw [if_neg hw] at h' ⊢
      exact ⟨fun _ _ => trivial, h'⟩
theorem wpAnyIn_of_wpAny (hQ : ¬ LetsOut Q) (md : Region.Mode) (hnd : ∀ (j : Nat) (o : Oper), ops[j]? = some o → noDefer o = true) : ∀ (fuel : Nat) (listed : Array Bool) (a : Act) (w : World),
    wpAny P md ops Q fuel listed a w → wpAnyIn (Fence.wide.inRound l0) n P md ops Q fuel listed a w
  | 0, _, _, _, h => h
  | fuel + 1, _, _, _, h => ⟨h.1, fun i hi => wpOpIn_of_wpOp hQ hnd (fun a' w' h' => wpAnyIn_of_wpAny hQ md hnd fuel _ a' w' h') (h.2 i hi)⟩
theorem wpIn_region_held_round {S : World → Prop} {id : Nat} {a : Act} {w : World} {l : List Oper} (hQ : ¬ LetsOut Q) (hm : P.follows .mixedOrders = true) (hnd : l.all noDefer = true) (hS : S w.drew)
    (h : S w.drew → wpAnyH P .any l.toArray Q S l.toArray.size (Array.replicate l.toArray.size false) a w.drew) : (Code.region id l.toArray true).wpIn (Fence.wide.inRound l0) n P Q a w :=
  wpIn_region_any hm (wpAnyIn_of_wpAny hQ .any (fun j o ho => List.all_eq_true.1 hnd o (by rw [List.getElem?_toArray] at ho; exact List.mem_of_getElem? ho)) _ _ _ _ (wpAny_of_held _ _ _ _ (h hS)))
end
end Go.Proofs.YtfhfbpmlnjdfoaaGreatDoor
namespace Go.Proofs.YtfhfbpmlnjdfoaaGreatDoor
open Go Go.RowKit Go.Maps
theorem MapAt.look1 {w : World} {mb N : Nat} {f : Int → Option Nat} (h : MapAt w mb N f) {x : Int} (h1 : -9223372036854775808 ≤ x) (h2 : x < 9223372036854775808) :
    (Instr.lookup 116 (.map (some mb)) (.int .i64 x) false).run Tryz.prog w = .ok (.int .i64 (((f x).getD 0 : Nat) : Int)) w := by
  obtain ⟨D, ho, hf⟩ := h
  obtain ⟨v, ps, hr, hv⟩ := ho.lookup keyedI Tryz.underlying116 (zeroI w) (plainElem_int Tryz.underlying3 (by decide)) (keyI h1 h2)
  obtain ⟨c, rfl, hc, hwc⟩ := plainElem_int_inv Tryz.underlying3 hv
  simp only [Prod.mk.injEq] at hc
  rw [hr]
  have : c = (((f x).getD 0 : Nat) : Int) := by
    cases hx : f x with
    | none =>
      have h0 := (hf x).1
      rw [hx] at h0
      have := atKey_of_not_has (D := D) h0 (.lit (.int .i64 0))
      rw [this] at hc
      simp at hc
      simpa using hc.1.symm
    | some c' =>
      have := (hf x).2 c' hx (.lit (.int .i64 0))
      rw [this] at hc
      simp at hc
      simpa using hc.1.symm
  rw [this]
end Go.Proofs.YtfhfbpmlnjdfoaaGreatDoor
