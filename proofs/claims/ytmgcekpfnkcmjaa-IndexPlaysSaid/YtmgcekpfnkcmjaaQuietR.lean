/- A quiet region (it draws its order, and only reads) in a round's frame. -/
import Derived.Shelf.RegionOpen
import Derived.Test.YtmgcekpfnkcmjaaRows09
namespace Go.Proofs.Ytmgcekpfnkcmjaa
open Go

def noDefer (o : Oper) : Bool := match o.op with
  | .defer _ => false
  | _ => true
theorem noDefer_spec {o : Oper} (h : noDefer o = true) (c : Call) : o.op ≠ .defer c := by
  intro e
  unfold noDefer at h
  rw [e] at h
  cases h

section
variable {F : Fence} {n : Nat} {P : Program} {ops : Array Oper} {Q : Exit → Act → World → Prop}

theorem wpOpIn_inRound (l0 : Nat) (hro : F.round = none) (hnd : ∀ (j : Nat) (o : Oper), ops[j]? = some o → noDefer o = true) {i : Nat} {K K' : Act → World → Prop} (hK : ∀ a w, K a w → K' a w) {a : Act} {w : World} (h : wpOpIn F n P ops Q i K a w) :
    wpOpIn (F.inRound l0) n P ops Q i K' a w := by
  have h' := wpOpIn_mono hK h
  unfold wpOpIn at *
  cases ho : ops[i]? with
  | none => simp only [ho] at h' ⊢; exact h'
  | some o =>
    have hnd' := hnd i o ho
    simp only [ho] at h' ⊢
    by_cases hw : Region.wanted o (yielded ops a.tmps) = true
    · rw [if_pos hw] at h' ⊢
      unfold Oper.wpIn at *
      refine ⟨h'.1, ?_⟩
      have h2 := h'.2
      rw [hro, Oper.semAt_none] at h2
      rw [show (F.inRound l0).round = some l0 from rfl, Oper.semAt_some _ _ _ (noDefer_spec hnd')]
      exact h2
    · rw [if_neg hw] at h' ⊢
      exact h'

theorem wpAnyIn_inRound (l0 : Nat) (md : Region.Mode) (hro : F.round = none) (hnd : ∀ (j : Nat) (o : Oper), ops[j]? = some o → noDefer o = true) : ∀ (fuel : Nat) (listed : Array Bool) (a : Act) (w : World),
    wpAnyIn F n P md ops Q fuel listed a w → wpAnyIn (F.inRound l0) n P md ops Q fuel listed a w
  | 0, _, _, _, h => h
  | fuel + 1, _, _, _, h => ⟨h.1, fun i hi => wpOpIn_inRound l0 hro hnd (fun a' w' h' => wpAnyIn_inRound l0 md hro hnd fuel _ a' w' h') (h.2 i hi)⟩

theorem wpIn_region_quiet_round {id : Nat} {a : Act} {w : World} {l : List Oper} {l0 : Nat} (hro : F.round = none) (hm : P.follows .mixedOrders = true) (hB : Region.lexB .any l.toArray = true) (hnd : l.all noDefer = true)
    (h : wpQuietIn F n P l.toArray (fun w' => ∃ n, w' = w.drewN n) (fun a' => ∀ w', (∃ n, w' = w.drewN n) → Q .normal a' w') l a) : (Code.region id l.toArray true).wpIn (F.inRound l0) n P Q a w := by
  have hB' := hB
  simp only [Region.lexB, Bool.and_eq_true] at hB'
  refine wpIn_region_any hm (wpAnyIn_inRound l0 .any hro (fun j o ho => List.all_eq_true.1 hnd o (by rw [List.getElem?_toArray] at ho; exact List.mem_of_getElem? ho)) _ _ _ _ ?_)
  refine wpAnyIn_of_quiet (C := fun w' => ∃ n, w' = w.drewN n) (Q := fun a' => ∀ w', (∃ n, w' = w.drewN n) → Q .normal a' w') hro (fun _ w' hw' h => h w' hw') _ _ _ _ ⟨1, rfl⟩ ?_
  have := wpAnyQIn_lex (F := F) (n := n) (C := fun w' => ∃ n, w' = w.drewN n) (md := .any) (ops := l.toArray) hB'.1 l 0 (Array.replicate l.toArray.size false) a (by simp) (by simpa using hB'.2) h
  simpa using this
end

set_option maxRecDepth 100000 in
theorem run_eqIn_place (w : World) (d : Nat) (a c : Int) (b e : Bool) : (Op.equalIn (d + 1 + 1) 36 (.agg #[.int .i64 a, .bool b]) (.agg #[.int .i64 c, .bool e])).run Try.prog w = .ok (a == c && b == e) w := by
  have hu := Try.underlying36
  obtain ⟨fs, hfs⟩ : ∃ fs, Try.prog.underlying 36 = some (.struct fs) := ⟨_, hu⟩
  have hF : Try.prog.fieldsOf 36 = fs := by unfold Program.fieldsOf; rw [hfs]
  have hfe := hfs.symm.trans hu
  injection hfe with hfe
  injection hfe with hfe
  have h2 := fun (x y : Bool) => run_equalIn_bool (P := Try.prog) w d 4 x y Try.underlying4
  rw [run_equalIn_struct w (d + 1) _ _ _ (by rw [hF]; exact hfs) (by kernel_rfl), hF, hfe]
  by_cases hac : a = c
  · simp [Op.eqFields, go_sem, h2, hac, Result.andThen]
    by_cases hbe : b = e <;> simp [hbe]
  · simp [Op.eqFields, go_sem, hac, Result.andThen]
set_option maxRecDepth 100000 in
theorem run_neq_place (w : World) (a c : Int) (b d : Bool) : (binOp .neq 36 (.agg #[.int .i64 a, .bool b]) (.agg #[.int .i64 c, .bool d])).run Try.prog w = .ok (.bool (!(a == c && b == d))) w := by
  simp only [binOp]
  simp [show Op.equal 36 (.agg #[.int .i64 a, .bool b]) (.agg #[.int .i64 c, .bool d]) = Op.equalIn (9998 + 1 + 1) 36 (.agg #[.int .i64 a, .bool b]) (.agg #[.int .i64 c, .bool d]) from rfl, run_eqIn_place w 9998 a c b d]
end Go.Proofs.Ytmgcekpfnkcmjaa
