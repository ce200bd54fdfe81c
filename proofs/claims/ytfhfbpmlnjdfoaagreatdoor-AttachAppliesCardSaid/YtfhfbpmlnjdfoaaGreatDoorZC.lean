/- The two tables that the logs' laws read, as they are laid. AttachApplies' card: its arguments, opened. Which entries there are behind records, or that two have one block, or slot: for any entries and records. The card. No condition. -/
import Derived.Test.YtfhfbpmlnjdfoaaGreatDoorA04
import Derived.Test.YtfhfbpmlnjdfoaaGreatDoorA12
import Derived.Test.YtfhfbpmlnjdfoaaGreatDoorCards
import Derived.Test.YtfhfbpmlnjdfoaaGreatDoorTie
import Derived.ProofKit
import Derived.OpenShut
import Derived.Deep.DeepHandedRow
import Derived.Lib.LaidTab
import Derived.Test.YtfhfbpmlnjdfoaaGreatDoorA27
import Derived.Test.YtfhfbpmlnjdfoaaGreatDoorA01
import Derived.SizedLaws
import Derived.Test.YtfhfbpmlnjdfoaaGreatDoorZB
namespace Go.Proofs.YtfhfbpmlnjdfoaaGreatDoor
open Go Go.RowKit
theorem tTab : Tryz.prog.globalNamed "lavabo/slots.turns" = some 1 := by kernel_rfl
theorem tTabType : (Tryz.prog.globals[1]?).map (·.type) = some 421 := by kernel_rfl
theorem tArr : Tryz.prog.underlying 421 = some (.array 5 3) := by kernel_rfl
theorem nTab : Tryz.prog.globalNamed "lavabo/crc.nibbles" = some 0 := by kernel_rfl
theorem nTabType : (Tryz.prog.globals[0]?).map (·.type) = some 388 := by kernel_rfl
theorem nArr : Tryz.prog.underlying 388 = some (.array 16 3) := by kernel_rfl
theorem laid_tail {P : Program} {W : World} {x : String × DataW Unit} {rest : List (String × DataW Unit)} (h : laidMet P (x :: rest) W) : laidMet P rest W := by
  obtain ⟨ps, ⟨g', t', cs, fuel, p, q, hg', ht', hvar, hd, hq, rfl⟩, hn, ha⟩ := h
  exact ⟨q, hq, (List.nodup_append.1 hn).2.1, fun b off hm => ha b off (List.mem_append_right _ hm)⟩
theorem tabs17 {W : World} (h : laidMetH Tryz.prog [("lavabo/crc.nibbles", Rows.laid_lavabo_crc_nibbles), ("lavabo/slots.turns", Rows.laid_lavabo_slots_turns)] W) : Nib W ∧ Tur W := by
  have h' : laidMet Tryz.prog [("lavabo/crc.nibbles", Rows.laid_lavabo_crc_nibbles), ("lavabo/slots.turns", Rows.laid_lavabo_slots_turns)] W := h
  have hn : Lib.TabIs Tryz.prog W "lavabo/crc.nibbles" .i64 (nibT.map Int.ofNat) := Lib.tabIs_of_head (rest := [("lavabo/slots.turns", Rows.laid_lavabo_slots_turns)]) nTab nTabType nArr Tryz.underlying3 (by kernel_rfl) (by kernel_rfl) h'
  have ht : Lib.TabIs Tryz.prog W "lavabo/slots.turns" .i64 [2, 28, 24, 17, 0] := Lib.tabIs_of_head (rest := []) tTab tTabType tArr Tryz.underlying3 (by kernel_rfl) (by kernel_rfl) (laid_tail h')
  refine ⟨⟨fun i hi => ?_⟩, ht.cell tTab 0 (by decide), ht.cell tTab 1 (by decide), ht.cell tTab 2 (by decide), ht.cell tTab 3 (by decide), ht.cell tTab 4 (by decide)⟩
  have hl : (nibT.map Int.ofNat).length = 16 := by decide
  have := hn.cell nTab i (by rw [hl]; exact hi)
  rw [this]
  have e : (nibT.map Int.ofNat).getD i 0 = (nibC i : Int) := by
    unfold nibC
    rw [List.getD_eq_getElem?_getD, List.getD_eq_getElem?_getD, List.getElem?_map]
    cases nibT[i]? <;> rfl
  rw [e]
def layT : Obj → Obj
  | .cells _ t frozen => .cells #[.int .i64 2, .int .i64 28, .int .i64 24, .int .i64 17, .int .i64 0] t frozen
  | o => o
def layN : Obj → Obj
  | .cells _ t frozen => .cells #[.int .i64 0, .int .i64 274646895, .int .i64 549293790, .int .i64 820201905, .int .i64 1098587580, .int .i64 1361435347, .int .i64 1640403810, .int .i64 1905808397, .int .i64 2197175160, .int .i64 2460548119, .int .i64 2722870694, .int .i64 2987750089, .int .i64 3280807620, .int .i64 3553878443, .int .i64 3811616794, .int .i64 4084100981] t frozen
  | o => o
noncomputable def laidWorld (os : Os) : World :=
  { World.holding Tryz.prog os ⟨#[], #[], []⟩ with heap := (((World.holding Tryz.prog os ⟨#[], #[], []⟩).heap.modify 1 layT).modify 0 layN) }
theorem wf_in {x : Int} (h : (Lit.int .i64 x).wf = true) : -9223372036854775808 ≤ x ∧ x < 9223372036854775808 := by
  have e1 : IntKind.i64.min = -9223372036854775808 := by decide
  have e2 : IntKind.i64.max = 9223372036854775807 := by decide
  simp only [Lit.wf, e1, e2, Bool.and_eq_true, decide_eq_true_eq] at h
  omega
end Go.Proofs.YtfhfbpmlnjdfoaaGreatDoor
namespace Go.Proofs.YtfhfbpmlnjdfoaaGreatDoor
open Go Go.RowKit Go.ChangeShapes Go.WideShapes Go.ChangeAt
section
variable {H : Type} {enc : TypeId × Value → H} {W : World} {P : Program}
theorem open_len {α : Type} {f : α → List Value} {k : Nat} {t e : TypeId} {v : Value} {d : DataW H} {p : List MemPlace} (ht : P.underlying t = some (.slice e)) {l : List α} (hl : Rd W k v l.length (l.flatMap f)) (h : DataW.Trod enc P W 0 (fun _ => true) true t v d p) :
    l = [] ∨ ∃ el sp, d = .slice el sp ∧ el.length = l.length := by
  obtain ⟨ao, cap, rfl⟩ := hl.nil_iff
  obtain ⟨fuel, hfu⟩ := h
  rcases Deep.open_slice ht hfu with ⟨hcs, hx⟩ | ⟨a, len, cap', m, n, D, Pl, hcs, _, _, _, _, hx, _⟩
  · simp only [Value.cells, List.cons.injEq, Value.slice.injEq, and_true] at hcs
    exact .inl (List.eq_nil_of_length_eq_zero hcs.2.1)
  · simp only [Value.cells, List.cons.injEq, Value.slice.injEq, and_true] at hcs
    obtain ⟨rfl, h2, rfl⟩ := hcs
    injection hx with hx1 hx2
    exact .inr ⟨_, _, hx1, by rw [List.length_map, List.length_range, h2]⟩
theorem cellsEnt : Tryz.prog.cellsOf 37 = 4 := by kernel_rfl
theorem cellsRec : Tryz.prog.cellsOf 101 = 7 := by kernel_rfl
theorem bytesEnt : Tryz.prog.bytesOf 37 = 32 := by kernel_rfl
theorem bytesRec : Tryz.prog.bytesOf 101 = 56 := by kernel_rfl
set_option maxRecDepth 100000 in
theorem entEl (n : Nat) (cs : List Value) (x : DataW H × List MemPlace) (h : DataW.trod enc Tryz.prog W 0 (fun _ => true) true n 37 cs = some x) : ∃ a : EI, cs = a.cs ∧ (I64 a.b ∧ I64 a.s) := by
  obtain ⟨xs, m, _, rfl, hl, hlen, hf⟩ := DataW.trod_struct Tryz.underlying37 h
  rw [cellsEnt] at hl
  match cs, hl, xs, hlen with
  | [c0, c1, c2, c3], _, [y0, y1, y2, y3], _ =>
    obtain ⟨a, ha, _, wa⟩ := DataW.trod_int Tryz.underlying3 (hf 0 _ rfl)
    obtain ⟨b, hb, _, wb⟩ := DataW.trod_int Tryz.underlying3 (hf 1 _ rfl)
    obtain ⟨c, hc, _⟩ := DataW.trod_bool Tryz.underlying4 (hf 2 _ rfl)
    obtain ⟨d, hd, _, _⟩ := DataW.trod_int Tryz.underlying3 (hf 3 _ rfl)
    cases ha; cases hb; cases hc; cases hd
    exact ⟨⟨a, b, c, d⟩, rfl, wf_in wa, wf_in wb⟩
set_option maxRecDepth 100000 in
theorem recEl (n : Nat) (cs : List Value) (x : DataW H × List MemPlace) (h : DataW.trod enc Tryz.prog W 0 (fun _ => true) true n 101 cs = some x) : ∃ a : List Int, cs = dsR a ∧ (I64 (a.getD 3 0) ∧ I64 (a.getD 4 0)) := by
  obtain ⟨xs, m, _, rfl, hl, hlen, hf⟩ := DataW.trod_struct Tryz.underlying101 h
  rw [cellsRec] at hl
  match cs, hl, xs, hlen with
  | [c0, c1, c2, c3, c4, c5, c6], _, [y0, y1, y2, y3, y4, y5, y6], _ =>
    obtain ⟨a0, h0, _, _⟩ := DataW.trod_int Tryz.underlying3 (hf 0 _ rfl)
    obtain ⟨a1, h1, _, _⟩ := DataW.trod_int Tryz.underlying3 (hf 1 _ rfl)
    obtain ⟨a2, h2, _, _⟩ := DataW.trod_int Tryz.underlying3 (hf 2 _ rfl)
    obtain ⟨a3, h3, _, w3⟩ := DataW.trod_int Tryz.underlying3 (hf 3 _ rfl)
    obtain ⟨a4, h4, _, w4⟩ := DataW.trod_int Tryz.underlying3 (hf 4 _ rfl)
    obtain ⟨a5, h5, _⟩ := DataW.trod_bool Tryz.underlying4 (hf 5 _ rfl)
    obtain ⟨a6, h6, _, _⟩ := DataW.trod_int Tryz.underlying3 (hf 6 _ rfl)
    cases h0; cases h1; cases h2; cases h3; cases h4; cases h5; cases h6
    exact ⟨[a0, a1, a2, a3, a4, if a5 then 1 else 0, a6], by cases a5 <;> rfl, wf_in w3, wf_in w4⟩
set_option maxRecDepth 100000 in
theorem open_ents {base : Nat} {v : Value} {d : DataW H} {p : List MemPlace} (hok : Value.okWide Tryz.prog W .any base 22 v) (h : DataW.Trod enc Tryz.prog W 0 (fun _ => true) true 22 v d p) :
    ∃ l : List EI, Rd W 4 v l.length (l.flatMap EI.cs) ∧ (∀ e ∈ l, I64 e.b ∧ I64 e.s) ∧ (l = [] ∨ ∃ el sp, d = .slice el sp ∧ el.length = l.length) := by
  obtain ⟨l, hl, h2⟩ := open_rd EI.cs (fun a => I64 a.b ∧ I64 a.s) (k := 4) (fun _ => rfl) (by decide) Tryz.underlying22 cellsEnt entEl hok h
  exact ⟨l, hl, h2, open_len Tryz.underlying22 hl h⟩
set_option maxRecDepth 100000 in
theorem open_recs {base : Nat} {v : Value} {d : DataW H} {p : List MemPlace} (hok : Value.okWide Tryz.prog W .any base 23 v) (h : DataW.Trod enc Tryz.prog W 0 (fun _ => true) true 23 v d p) :
    ∃ l : List (List Int), Rd W 7 v l.length (l.flatMap dsR) ∧ (∀ e ∈ l, I64 (e.getD 3 0) ∧ I64 (e.getD 4 0)) ∧ (l = [] ∨ ∃ el sp, d = .slice el sp ∧ el.length = l.length) := by
  obtain ⟨l, hl, h2⟩ := open_rd dsR (fun a => I64 (a.getD 3 0) ∧ I64 (a.getD 4 0)) (k := 7) (fun _ => rfl) (by decide) Tryz.underlying23 cellsRec recEl hok h
  exact ⟨l, hl, h2, open_len Tryz.underlying23 hl h⟩
end
theorem len_reach {H : Type} {P : Program} {ts : List TypeId} {ds : List (DataW H)} (h : (DataW.weightsEach P ts ds).all (· ≤ reachBytes) = true) {j : Nat} {t e : TypeId} {α : Type} {l : List α} {d : DataW H} (ht : ts[j]? = some t) (hd : ds[j]? = some d) (hu : P.underlying t = some (.slice e)) {b : Nat} (hb : P.bytesOf e = b) (hb32 : 32 ≤ b)
    (hl : l = [] ∨ ∃ el sp, d = .slice el sp ∧ el.length = l.length) : l.length ≤ 4398046511104 := by
  rcases hl with rfl | ⟨el, sp, rfl, he⟩
  · simp
  · have h1 := sized_slice h ht hd hu
    rw [hb] at h1
    have h2 := reachBytes_lt
    have h3 : (el.length + sp.length) * 32 ≤ (el.length + sp.length) * b := Nat.mul_le_mul_left _ hb32
    omega
end Go.Proofs.YtfhfbpmlnjdfoaaGreatDoor
namespace Go.Proofs.YtfhfbpmlnjdfoaaGreatDoor.attachApplies
open Go Go.RowKit Go.ChangeShapes Go.WideShapes Go.ChangeAt Go.Proofs.YtfhfbpmlnjdfoaaGreatDoor
theorem own : ownKnob Tryz.prog.godebug = none := by kernel_rfl
set_option maxRecDepth 100000 in
theorem contract (H : Type) (enc : TypeId × Value → H) (W : World) (base : Nat) (args : Array Value) (ds gs : List (DataW H)) (before : List MemPlace)
    (hval : ∀ (j : Nat) t v, Tryz.f3.params[j]? = some t → args[j]? = some v → Value.okWide Tryz.prog W .any base t v)
    (hW : DataW.Whole enc Tryz.prog Tryz.f3.params.toList Rows.attachAppliesSpec.vars false W args.toList ds gs before) (hL : laidMetH Tryz.prog Rows.attachAppliesRow.laid W) (hsz : (DataW.weightsEach Tryz.prog (Tryz.f3.params.toList ++ (OpenSpec.ofChange Rows.attachAppliesSpec).bare.plain.varTypes Tryz.prog) (ds ++ gs)).all (· ≤ reachBytes) = true) :
    Calls Tryz.prog 3 args W fun e W' => ∃ v, e = .returned v ∧ Rows.attachAppliesSpec.post enc Tryz.prog Tryz.f3 false true false false W args v W' := by
  have hW' := hW
  obtain ⟨p, q, hA0, hV, rfl, hfz, hnd⟩ := hW
  have hA : DataW.TrodAll enc Tryz.prog W 0 (fun _ => true) true Tryz.f3.params.toList args.toList ds p := hA0
  rw [Tryz.params3] at hA hval
  obtain ⟨v0, vs0, d0, ds0, p0, q0, hargs, rfl, rfl, h0, r0⟩ := trodAll_cons hA
  obtain ⟨v1, vs1, d1, ds1, p1, q1, rfl, rfl, rfl, h1, r1⟩ := trodAll_cons r0
  obtain ⟨rfl, rfl, rfl⟩ := trodAll_nil r1
  obtain rfl : args = #[v0, v1] := by cases args; simp_all
  obtain ⟨rfl, rfl⟩ := trodVars_none hV
  obtain ⟨l, hl, hlb, hld⟩ := open_ents (hval 0 22 v0 rfl rfl) h0
  obtain ⟨r, hr, hrb, hrd⟩ := open_recs (hval 1 23 v1 rfl rfl) h1
  have hn := len_reach hsz (j := 0) (t := 22) (e := 37) (by rw [Tryz.params3]; rfl) rfl Tryz.underlying22 bytesEnt (by decide) hld
  have hm := len_reach hsz (j := 1) (t := 23) (e := 101) (by rw [Tryz.params3]; rfl) rfl Tryz.underlying23 bytesRec (by decide) hrd
  refine (walk hl hr hn hm hlb hrb (tabs17 hL).1 (tabs17 hL).2).mono fun e W' ⟨he, hb⟩ => ?_
  subst he
  exact ⟨_, rfl, law_post (T := 4) (by kernel_rfl) (by kernel_rfl) rfl Tryz.underlying4 rfl rfl hW' hb⟩
theorem laid_met (os : Os) : laidMet Tryz.prog Rows.attachAppliesRow.laid ((laidWorld os).forCall (fun _ _ => 0) ⟨#[], #[.slice none 0 0, .slice none 0 0], []⟩).memory :=
  laidMet_of_run' 8 (by kernel_rfl) (by kernel_rfl)
theorem reads (os : Os) {H : Type} (enc : TypeId × Value → H) : ∃ places, DataW.whole enc Tryz.prog ((laidWorld os).forCall (fun _ _ => 0) ⟨#[], #[.slice none 0 0, .slice none 0 0], []⟩).memory Tryz.f3.params.toList Rows.attachAppliesSpec.vars false (#[.slice none 0 0, .slice none 0 0] : Array Value).toList 8 = some ([.nil, .nil], [], places) :=
  ⟨[], by kernel_rfl⟩
set_option maxRecDepth 100000 in
theorem lifted (os : Os) (started : os.Started) (H : Type) (enc : TypeId × Value → H) (F : Stop.Interp) :
    ReturnsInHanded {} Tryz.checked os 3 .any ((OpenSpec.ofChange Rows.attachAppliesSpec).preRow enc Tryz.prog Tryz.f3 Rows.attachAppliesRow.domain false Rows.attachAppliesRow.laid) (((OpenSpec.ofChange Rows.attachAppliesSpec).at F).post enc Tryz.prog Tryz.f3 false true false false) := by
  obtain ⟨places, hx⟩ := reads os enc
  refine returnsInHanded_of_row (C := Tryz.checked) (s := OpenSpec.ofChange Rows.attachAppliesSpec) own started (by kernel_rfl) Tryz.func3
    (witness_row_at (enc := enc) (C := Tryz.checked) false (laidWorld os) #[.slice none 0 0, .slice none 0 0] rfl (by kernel_rfl) (by kernel_rfl) (by kernel_rfl)
      (OpenSpec.preRow_of_cond 8 hx (by kernel_rfl) (fun k hk => by cases hk) (by kernel_rfl) (laid_met os))) ?_
  intro W base args ds gs before hval hW _ _ hsz hL _ _
  exact contract H enc W base args ds gs before hval hW hL hsz
end Go.Proofs.YtfhfbpmlnjdfoaaGreatDoor.attachApplies
