/- A superblock and blocks as arguments of a card. That devices that were formatted are a cache without blocks, and which cannot be formatted: for any superblock and blocks. The card. No condition. -/
import Derived.Test.YtfhfbpmlnjdfoaaGreatDoorA01
import Derived.Test.YtfhfbpmlnjdfoaaGreatDoorA09
import Derived.OpenShut
import Derived.Test.YtfhfbpmlnjdfoaaGreatDoorYC
import Derived.Test.YtfhfbpmlnjdfoaaGreatDoorYT
namespace Go.Proofs.YtfhfbpmlnjdfoaaGreatDoor
open Go Go.RowKit Go.ChangeShapes Go.WideShapes Go.ChangeAt
theorem blk_of_ints {l : List Int} (h : ∀ x ∈ l, (Lit.int .u8 x).wf = true) : ∃ b : Bk, b.length = l.length ∧ l.map (Value.int .u8) = bkC b := by
  refine ⟨l.map fun x => UInt8.ofNat x.toNat, by simp, ?_⟩
  rw [bkC, List.map_map]
  refine List.map_congr_left fun x hx => ?_
  have hw := h x hx
  have e1 : IntKind.u8.min = 0 := by decide
  have e2 : IntKind.u8.max = 255 := by decide
  simp only [Lit.wf, e1, e2, Bool.and_eq_true, decide_eq_true_eq] at hw
  simp only [Function.comp, Go.Extern.Stop.cell, UInt8.toNat_ofNat']
  congr 1
  have : x.toNat % 2 ^ 8 = x.toNat := Nat.mod_eq_of_lt (by omega)
  rw [this]
  show x = (x.toNat : Int)
  omega
theorem cells_super : Tryz.prog.cellsOf 40 = 7 := by kernel_rfl
theorem cellsBk : Tryz.prog.cellsOf 54 = 64 := by kernel_rfl
theorem cellsU8 : Tryz.prog.cellsOf 5 = 1 := by kernel_rfl
section
variable {H : Type} {enc : TypeId × Value → H} {W : World}
set_option maxRecDepth 100000 in
theorem open_super {base : Nat} {v : Value} {d : DataW H} {p : List MemPlace} (hok : Value.okWide Tryz.prog W .any base 40 v) (h : DataW.Trod enc Tryz.prog W 0 (fun _ => true) true 40 v d p) : ∃ id bl sl jo pa lo ba : Int, v = .agg (superC id bl sl jo pa lo ba).toArray := by
  have hok' : ∃ cs, v = .agg cs := by
    unfold Value.okWide at hok
    rw [Tryz.underlying40] at hok
    obtain ⟨cs, h1, _⟩ := hok
    exact ⟨cs, h1⟩
  obtain ⟨cs, rfl⟩ := hok'
  obtain ⟨fuel, hf⟩ := h
  obtain ⟨xs, m, _, _, hl, hlen, hi⟩ := DataW.trod_struct Tryz.underlying40 hf
  rw [cells_super] at hl
  simp only [Value.cells] at hl hi
  match hc : cs.toList, hl, xs, hlen with
  | [c0, c1, c2, c3, c4, c5, c6], _, [y0, y1, y2, y3, y4, y5, y6], _ =>
    rw [hc] at hi
    obtain ⟨a0, h0, _, _⟩ := DataW.trod_int Tryz.underlying3 (hi 0 _ rfl)
    obtain ⟨a1, h1, _, _⟩ := DataW.trod_int Tryz.underlying3 (hi 1 _ rfl)
    obtain ⟨a2, h2, _, _⟩ := DataW.trod_int Tryz.underlying3 (hi 2 _ rfl)
    obtain ⟨a3, h3, _, _⟩ := DataW.trod_int Tryz.underlying3 (hi 3 _ rfl)
    obtain ⟨a4, h4, _, _⟩ := DataW.trod_int Tryz.underlying3 (hi 4 _ rfl)
    obtain ⟨a5, h5, _, _⟩ := DataW.trod_int Tryz.underlying3 (hi 5 _ rfl)
    obtain ⟨a6, h6, _, _⟩ := DataW.trod_int Tryz.underlying3 (hi 6 _ rfl)
    cases h0; cases h1; cases h2; cases h3; cases h4; cases h5; cases h6
    have e : cs = #[.int .i64 a0, .int .i64 a1, .int .i64 a2, .int .i64 a3, .int .i64 a4, .int .i64 a5, .int .i64 a6] := by rw [← @Array.toArray_toList _ cs, hc]
    exact ⟨a0, a1, a2, a3, a4, a5, a6, by rw [e]⟩
abbrev Bk64 := { b : Bk // b.length = 64 }
instance : Inhabited Bk64 := ⟨⟨List.replicate 64 0, by simp⟩⟩
set_option maxRecDepth 100000 in
theorem bkEl (n : Nat) (cs : List Value) (x : DataW H × List MemPlace) (h : DataW.trod enc Tryz.prog W 0 (fun _ => true) true n 54 cs = some x) : ∃ a : Bk64, cs = bkC a.1 ∧ True := by
  obtain ⟨xs, m, _, _, hl, hlen, hi⟩ := DataW.trod_array Tryz.underlying54 h
  rw [cellsBk] at hl
  rw [cellsU8] at hi
  have hc : ∀ i (hi : i < cs.length), ∃ a : Int, cs[i] = .int .u8 a ∧ (Lit.int .u8 a).wf = true := fun i h1 => by
    have h2 := hi i (by omega)
    rw [List.getElem?_eq_getElem (by omega : i < xs.length)] at h2
    obtain ⟨a, e, _, w⟩ := DataW.trod_int Tryz.underlying5 h2
    refine ⟨a, ?_, w⟩
    have : ((cs.drop (i * 1)).take 1)[0]? = some (.int .u8 a) := by rw [e]; rfl
    rw [List.getElem?_take_of_lt (by omega), List.getElem?_drop, Nat.mul_one, Nat.add_zero, List.getElem?_eq_getElem h1] at this
    exact Option.some.inj this
  obtain ⟨l, hll, hle, hlw⟩ : ∃ l : List Int, l.length = cs.length ∧ cs = l.map (Value.int .u8) ∧ ∀ x ∈ l, (Lit.int .u8 x).wf = true := by
    clear hl hi h hlen
    induction cs with
    | nil => exact ⟨[], rfl, rfl, fun x h => by cases h⟩
    | cons c cs ih =>
      obtain ⟨a, ha, wa⟩ := hc 0 (by simp)
      obtain ⟨l, h1, h2, h3⟩ := ih (fun i h => by have := hc (i + 1) (by simpa using h); simpa using this)
      refine ⟨a :: l, by simp [h1], by rw [List.map_cons, ← h2]; congr 1, fun x hx => ?_⟩
      rcases List.mem_cons.1 hx with rfl | hx
      · exact wa
      · exact h3 x hx
  obtain ⟨b, hb, hbc⟩ := blk_of_ints hlw
  exact ⟨⟨b, by omega⟩, hle.trans hbc, trivial⟩
set_option maxRecDepth 100000 in
theorem open_blks {base : Nat} {v : Value} {d : DataW H} {p : List MemPlace} (hok : Value.okWide Tryz.prog W .any base 41 v) (h : DataW.Trod enc Tryz.prog W 0 (fun _ => true) true 41 v d p) :
    ∃ l : List Bk, Rd W 64 v l.length (l.flatMap bkC) ∧ ∀ b ∈ l, b.length = 64 := by
  obtain ⟨l, hl, -⟩ := open_rd (fun b : Bk64 => bkC b.1) (fun _ => True) (k := 64) (fun b => (bkC_len _).trans b.2) (by decide) Tryz.underlying41 cellsBk bkEl hok h
  refine ⟨l.map (·.1), ?_, fun b hb => ?_⟩
  · rw [List.length_map, List.flatMap_map]
    exact hl
  · obtain ⟨a, -, rfl⟩ := List.mem_map.1 hb
    exact a.2
end
end Go.Proofs.YtfhfbpmlnjdfoaaGreatDoor
namespace Go.Proofs.YtfhfbpmlnjdfoaaGreatDoor.attachFormats
open Go Go.RowKit Go.ChangeShapes Go.WideShapes Go.ChangeAt Go.Proofs.YtfhfbpmlnjdfoaaGreatDoor
theorem own : ownKnob Tryz.prog.godebug = none := by kernel_rfl
set_option maxRecDepth 100000 in
theorem contract (H : Type) (enc : TypeId × Value → H) (W : World) (base : Nat) (args : Array Value) (ds gs : List (DataW H)) (before : List MemPlace)
    (hval : ∀ (j : Nat) t v, Tryz.f4.params[j]? = some t → args[j]? = some v → Value.okWide Tryz.prog W .any base t v)
    (hW : DataW.Whole enc Tryz.prog Tryz.f4.params.toList Rows.attachFormatsSpec.vars false W args.toList ds gs before) (hL : laidMetH Tryz.prog Rows.attachFormatsRow.laid W) :
    Calls Tryz.prog 4 args W fun e W' => ∃ v, e = .returned v ∧ Rows.attachFormatsSpec.post enc Tryz.prog Tryz.f4 false true false false W args v W' := by
  have hW' := hW
  obtain ⟨p, q, hA0, hV, rfl, hfz, hnd⟩ := hW
  have hA : DataW.TrodAll enc Tryz.prog W 0 (fun _ => true) true Tryz.f4.params.toList args.toList ds p := hA0
  rw [Tryz.params4] at hA hval
  obtain ⟨v0, vs0, d0, ds0, p0, q0, hargs, rfl, rfl, h0, r0⟩ := trodAll_cons hA
  obtain ⟨v1, vs1, d1, ds1, p1, q1, rfl, rfl, rfl, h1, r1⟩ := trodAll_cons r0
  obtain ⟨rfl, rfl, rfl⟩ := trodAll_nil r1
  obtain rfl : args = #[v0, v1] := by cases args; simp_all
  obtain ⟨rfl, rfl⟩ := trodVars_none hV
  obtain ⟨id, bl, sl, jo, pa, lo, ba, rfl⟩ := open_super (hval 0 40 v0 rfl rfl) h0
  obtain ⟨l, hl, h64⟩ := open_blks (hval 1 41 v1 rfl rfl) h1
  refine (walk id bl sl jo pa lo ba W hl h64 (tabs17 hL).1 (tabs17 hL).2).mono fun e W' ⟨he, hb⟩ => ?_
  subst he
  exact ⟨_, rfl, law_post (T := 4) (by kernel_rfl) (by kernel_rfl) rfl Tryz.underlying4 rfl rfl hW' hb⟩
theorem laid_met (os : Os) : laidMet Tryz.prog Rows.attachFormatsRow.laid ((laidWorld os).forCall (fun _ _ => 0) ⟨#[], #[.agg #[.int .i64 0, .int .i64 0, .int .i64 0, .int .i64 0, .int .i64 0, .int .i64 0, .int .i64 0], .slice none 0 0], []⟩).memory :=
  laidMet_of_run' 8 (by kernel_rfl) (by kernel_rfl)
theorem reads (os : Os) {H : Type} (enc : TypeId × Value → H) : ∃ places, DataW.whole enc Tryz.prog ((laidWorld os).forCall (fun _ _ => 0) ⟨#[], #[.agg #[.int .i64 0, .int .i64 0, .int .i64 0, .int .i64 0, .int .i64 0, .int .i64 0, .int .i64 0], .slice none 0 0], []⟩).memory Tryz.f4.params.toList Rows.attachFormatsSpec.vars false (#[.agg #[.int .i64 0, .int .i64 0, .int .i64 0, .int .i64 0, .int .i64 0, .int .i64 0, .int .i64 0], .slice none 0 0] : Array Value).toList 8 = some ([.agg [.lit (.int .i64 0), .lit (.int .i64 0), .lit (.int .i64 0), .lit (.int .i64 0), .lit (.int .i64 0), .lit (.int .i64 0), .lit (.int .i64 0)], .nil], [], places) :=
  ⟨[], by kernel_rfl⟩
set_option maxRecDepth 100000 in
theorem lifted (os : Os) (started : os.Started) (H : Type) (enc : TypeId × Value → H) (F : Stop.Interp) :
    ReturnsInHanded {} Tryz.checked os 4 .any ((OpenSpec.ofChange Rows.attachFormatsSpec).preRow enc Tryz.prog Tryz.f4 Rows.attachFormatsRow.domain false Rows.attachFormatsRow.laid) (((OpenSpec.ofChange Rows.attachFormatsSpec).at F).post enc Tryz.prog Tryz.f4 false true false false) := by
  obtain ⟨places, hx⟩ := reads os enc
  refine returnsInHanded_of_row (C := Tryz.checked) (s := OpenSpec.ofChange Rows.attachFormatsSpec) own started (by kernel_rfl) Tryz.func4
    (witness_row_at (enc := enc) (C := Tryz.checked) false (laidWorld os) #[.agg #[.int .i64 0, .int .i64 0, .int .i64 0, .int .i64 0, .int .i64 0, .int .i64 0, .int .i64 0], .slice none 0 0] rfl (by kernel_rfl) (by kernel_rfl) (by kernel_rfl)
      (OpenSpec.preRow_of_cond 8 hx (by kernel_rfl) (fun k hk => by cases hk) (by kernel_rfl) (laid_met os))) ?_
  intro W base args ds gs before hval hW _ _ _ hL _ _
  exact contract H enc W base args ds gs before hval hW hL
end Go.Proofs.YtfhfbpmlnjdfoaaGreatDoor.attachFormats
