/- A device: call; Write, Flush, Read, Firm. An open write, as it is built. APPEND onto a slice of one's own, as a run (for regions that draw their order). A device: Write. A device: Write, the whole. A device: Flush. -/
import Derived.Test.YtfhfbpmlnjdfoaaGreatDoorG01
import Derived.Deep.RegionHeld3
import Derived.Great.BuildSlice
import Derived.Deep.DrawnRows
namespace Go.Proofs.YtfhfbpmlnjdfoaaGreatDoor
open Go Go.RowKit
def CallPost (S : Nat → Prop) (w : World) (b : Nat) (F : List Bk) (O : List (Nat × Bk)) (P : List Int) (failed : Int) (Q : World → Prop) (e : Ending) (w' : World) : Prop :=
  (fate P = 1 ∧ e = .returned (.int .i64 failed) ∧ Dv S w' b F O P.tail ∧ Upd (fun j => j = b) w w') ∨ (fate P = 0 ∧ e = .returned (.int .i64 0) ∧ Q w') ∨
    (fate P ≠ 0 ∧ fate P ≠ 1 ∧ e = .returned (.int .i64 0) ∧ Dv S w' b F O P.tail ∧ Upd (fun j => j = b) w w')
set_option maxRecDepth 100000 in
theorem dcall {S : Nat → Prop} {w : World} {b : Nat} {F : List Bk} {O : List (Nat × Bk)} {P : List Int} (h : Dv S w b F O P) (failed : Int) (fd : Nat) (caps : Array Value) (Q : World → Prop)
    (hent : ∀ args w, (callFunc fd args).run Tryz.prog w = .ok (.enter fd args) w)
    (hdo : fate P = 0 → ∀ w1, Dv S w1 b F O P.tail → Upd (fun j => j = b) w w1 → Calls Tryz.prog fd caps w1 fun e w' => e = .returned (.tuple #[]) ∧ Q w') :
    Calls Tryz.prog 63 #[.pointer (some ⟨b, 0, none⟩), .int .i64 failed, .func (.func fd) #[] caps] w (CallPost S w b F O P failed Q) := by
  have hmf : ∀ (fn : Fn) (first cap : Array Value) (w : World), (Instr.makeFunc fn first cap).run Tryz.prog w = .ok (.func fn first cap) w := fun _ _ _ _ => rfl
  have hua : Upd (fun _ => False) w (w.alloc (.cells #[.pointer (some ⟨b, 0, none⟩)] 46)) := (Upd.refl _ _).alloc _
  have H1 := Lib.hid (h.new hua)
  have HG : Hid ((w.alloc (.cells #[.pointer (some ⟨b, 0, none⟩)] 46)).cell? ⟨w.heap.size, 0, none⟩ = some (.pointer (some ⟨b, 0, none⟩))) := cell_of_block (heap_alloc_last w _ rfl) 0
  have HD := Lib.hid hdo
  have HU := Lib.hid hua
  clear h hdo hua
  go_enter Tryz.func63, Tryz.ntmps63
  go_wp2_with fail
  refine (dtake H1.out HG.out).mono ?_
  rintro e w1 ⟨rfl, hd1, hu1⟩
  have D1 := Lib.hid (And.intro hd1 ((HU.out.mono (fun _ _ h => h.elim)).trans hu1))
  clear hd1 hu1
  by_cases h1 : fate P = 1
  · have H1 := Lib.hid h1
    rw [h1]
    clear h1
    go_wp2
    go_ret
    exact .inl ⟨H1.out, rfl, D1.out.1, D1.out.2⟩
  · by_cases h0 : fate P = 0
    · have H0 := Lib.hid h0
      rw [h0]
      clear h0 h1
      go_wp2_with fail
      refine (HD.out H0.out w1 D1.out.1 D1.out.2).mono ?_
      rintro e w2 ⟨rfl, hq⟩
      have HQ := Lib.hid hq
      clear hq
      go_wp2
      go_ret
      exact .inr (.inl ⟨H0.out, rfl, HQ.out⟩)
    · have q1 : (fate P == 1) = false := by simpa using h1
      have q0 : (fate P == 0) = false := by simpa using h0
      have H0 := Lib.hid (And.intro h0 h1)
      clear h0 h1
      go_wp2
      go_ret
      exact .inr (.inr ⟨H0.out.1, H0.out.2, rfl, D1.out.1, D1.out.2⟩)
abbrev wrC (s : Int) (x : Bk) : List Value := .int .i64 s :: bkC x
theorem wrC_len (s : Int) (x : Bk) : (wrC s x).length = x.length + 1 := by simp [wrC, bkC_len]
theorem wrC_one (s : Int) (x : Bk) : ∀ v ∈ wrC s x, v.oneCell' = true := by
  intro v hv
  rcases List.mem_cons.1 hv with rfl | h
  · rfl
  · exact bkC_one x v h
theorem fold_cells (off : Nat) (cs z : Array Value) : (Array.foldl (fun (cs : Array Value) (x : Value × Nat) => cs.setIfInBounds (off + x.2) x.1) z cs.zipIdx).size = z.size ∧
    ∀ k, (Array.foldl (fun (cs : Array Value) (x : Value × Nat) => cs.setIfInBounds (off + x.2) x.1) z cs.zipIdx)[k]? = if off ≤ k ∧ k < off + cs.size ∧ k < z.size then cs[k - off]? else z[k]? := by
  rw [← Array.foldl_toList, Array.toList_zipIdx]
  obtain ⟨h1, h2⟩ := Go.Great.foldl_set off cs.toList 0 z
  exact ⟨h1, fun k => by rw [h2 k]; simp⟩
theorem fill_step (pl : Nat → Option (Nat × Nat)) (z : Array Value) (i off size : Nat) (v : Value) (rest : List (Nat × Value)) (hp : pl i = some (off, size)) (hv : v.cells.size = size) (hz : off + size ≤ z.size) :
    Instr.fill pl z ((i, v) :: rest) = Instr.fill pl (Array.foldl (fun (cs : Array Value) (x : Value × Nat) => cs.setIfInBounds (off + x.2) x.1) z v.cells.zipIdx) rest := by
  show (match pl i with | none => none | some (off, size) => _) = _
  rw [hp]
  show (if (decide (v.cells.size ≠ size) || decide (off + v.cells.size > z.size)) = true then none else _) = _
  rw [if_neg (by simp [hv]; omega)]
theorem fill_two (p q : Value) (hp : p.cells.size = 1) (hq : q.cells.size = 64) (z : Array Value) (hz : z.size = 65) (pl : Nat → Option (Nat × Nat)) (h0 : pl 0 = some (0, 1)) (h1 : pl 1 = some (1, 64)) :
    Instr.fill pl z [(0, p), (1, q)] = some (p.cells.toList ++ q.cells.toList).toArray := by
  obtain ⟨a1, a2⟩ := fold_cells 0 p.cells z
  obtain ⟨b1, b2⟩ := fold_cells 1 q.cells (Array.foldl (fun (cs : Array Value) (x : Value × Nat) => cs.setIfInBounds (0 + x.2) x.1) z p.cells.zipIdx)
  rw [fill_step pl z 0 0 1 p _ h0 hp (by omega), fill_step pl _ 1 1 64 q _ h1 hq (by rw [a1]; omega)]
  show some _ = _
  congr 1
  apply Array.ext_getElem?
  intro k
  rw [b2 k, a1, hz, hq]
  by_cases hk : k < 65
  · by_cases hk0 : k = 0
    · subst hk0
      rw [if_neg (by omega), a2 0, if_pos ⟨by omega, by omega, by omega⟩]
      rw [show ((p.cells.toList ++ q.cells.toList).toArray)[0]? = (p.cells.toList ++ q.cells.toList)[0]? by rw [List.getElem?_toArray], List.getElem?_append_left (by simp; omega)]
      simp
    · rw [if_pos ⟨by omega, by omega, hk⟩, show ((p.cells.toList ++ q.cells.toList).toArray)[k]? = (p.cells.toList ++ q.cells.toList)[k]? by rw [List.getElem?_toArray], List.getElem?_append_right (by simp; omega)]
      simp [hp]
  · rw [if_neg (by omega), a2 k, if_neg (by omega), Array.getElem?_eq_none (by omega), Array.getElem?_eq_none (by simp; omega)]
theorem infoWr : (Tryz.prog.info? 131).map (fun i => (i.zero.map (·.cells.size), i.size, i.bytes)) = some (some 65, 65, 72) := by kernel_rfl
theorem placesWr : (match Tryz.prog.underlying 131 with | some (.struct fs) => fs.toList.mapM (fun f => (Tryz.prog.info? f.type).map fun i => (f.offset, i.size)) | _ => none) = some [(0, 1), (1, 64)] := by kernel_rfl
theorem infoWr_parts : ∃ i z, Tryz.prog.info? 131 = some i ∧ i.zero = some z ∧ z.cells.size = 65 ∧ i.size = 65 ∧ i.bytes = 72 := by
  obtain ⟨i, hi, h⟩ := Option.map_eq_some_iff.1 infoWr
  simp only [Prod.mk.injEq] at h
  obtain ⟨h1, h2, h3⟩ := h
  obtain ⟨z, hz, hs⟩ := Option.map_eq_some_iff.1 h1
  exact ⟨i, z, hi, hz, hs, h2, h3⟩
set_option maxRecDepth 100000 in
theorem run_build_wr (p q : Value) (hp : p.cells.size = 1) (hq : q.cells.size = 64) (w : World) : (Instr.build 131 #[(0, p), (1, q)]).run Tryz.prog w = .ok (.agg (p.cells.toList ++ q.cells.toList).toArray) w := by
  refine run_build w _ _ _ ?_
  obtain ⟨i, z, hi, hz, hs, _, _⟩ := infoWr_parts
  have hpl := placesWr
  have hu := Tryz.underlying131
  unfold Program.built
  rw [hu] at hpl
  rw [hi, hu]
  simp only [hz]
  simp only at hpl
  rw [hpl]
  exact fill_two p q hp hq z.cells hs _ rfl rfl
set_option maxRecDepth 100000 in
theorem run_row_wr (v : Value) (hv : v.cells.size = 65) (w : World) : (Instr.buildSlice 121 1 #[(0, v)]).run Tryz.prog w = .ok (.slice (some ⟨w.heap.size, 0, none⟩) 1 1) (w.alloc (.cells v.cells 131)) := by
  obtain ⟨i, z, hi, hz, hs, hsz, _⟩ := infoWr_parts
  refine run_buildSlice w _ _ 1 _ _ i z Tryz.underlying121 hi hz (by rw [hsz]; decide) (by rw [hsz]; decide) ?_
  obtain ⟨a1, a2⟩ := fold_cells 0 v.cells ((Array.range (1 * i.size)).map (z.cells[· % z.cells.size]!))
  rw [show (#[(0, v)] : Array (Nat × Value)).toList = [(0, v)] from rfl]
  rw [fill_step _ _ 0 0 65 v _ (by simp [hsz]) hv (by simp [hsz])]
  show some _ = _
  congr 1
  apply Array.ext_getElem?
  intro k
  rw [a2 k]
  by_cases hk : k < 65
  · rw [if_pos ⟨by omega, by omega, by simp [hsz]; omega⟩]; rfl
  · rw [if_neg (by omega), Array.getElem?_eq_none (by simp [hsz]; omega), Array.getElem?_eq_none (by omega)]
theorem wp_build_wr (dst : Option Tmp) (ty : TypeId) (pos : String) (after : Array Edge) (p q : Operand) (a : Act) (w : World) (K : Act → World → Prop) (Q : Exit → Act → World → Prop) (hp : (a.eval p).cells.size = 1) (hq : (a.eval q).cells.size = 64) :
    Oper.wp Tryz.prog { dst := dst, op := .build 131 #[(0, p), (1, q)], type := ty, pos := pos, after := after, guard := none } a w K Q = K (a.put dst (.agg ((a.eval p).cells.toList ++ (a.eval q).cells.toList).toArray)) w := by
  unfold Oper.wp execOp
  have := run_build_wr (a.eval p) (a.eval q) hp hq w
  simp only [List.map_toArray, List.map_cons, List.map_nil, Sem.run_bind, this, Result.andThen_ok]
  rfl
theorem wp_row_wr (dst : Option Tmp) (ty : TypeId) (pos : String) (after : Array Edge) (p : Operand) (a : Act) (w : World) (K : Act → World → Prop) (Q : Exit → Act → World → Prop) (hp : (a.eval p).cells.size = 65) :
    Oper.wp Tryz.prog { dst := dst, op := .buildSlice 121 1 #[(0, p)], type := ty, pos := pos, after := after, guard := none } a w K Q = K (a.put dst (.slice (some ⟨w.heap.size, 0, none⟩) 1 1)) (w.alloc (.cells (a.eval p).cells 131)) := by
  unfold Oper.wp execOp
  have := run_row_wr (a.eval p) hp w
  simp only [List.map_toArray, List.map_cons, List.map_nil, Sem.run_bind, this, Result.andThen_ok]
  rfl
set_option maxRecDepth 100000 in
theorem run_build_map (a : Act) (p q : Operand) (w : World) (hp : (a.eval p).cells.size = 1) (hq : (a.eval q).cells.size = 64) :
    (Instr.build 131 ((#[(0, p), (1, q)] : Array (Nat × Operand)).map fun (i, x) => (i, a.eval x))).run Tryz.prog w = .ok (.agg ((a.eval p).cells.toList ++ (a.eval q).cells.toList).toArray) w := by
  have := run_build_wr (a.eval p) (a.eval q) hp hq w
  simp only [List.map_toArray, List.map_cons, List.map_nil]
  exact this
set_option maxRecDepth 100000 in
theorem run_row_map (a : Act) (p : Operand) (w : World) (hp : (a.eval p).cells.size = 65) :
    (Instr.buildSlice 121 1 ((#[(0, p)] : Array (Nat × Operand)).map fun (i, x) => (i, a.eval x))).run Tryz.prog w = .ok (.slice (some ⟨w.heap.size, 0, none⟩) 1 1) (w.alloc (.cells (a.eval p).cells 131)) := by
  have := run_row_wr (a.eval p) hp w
  simp only [List.map_toArray, List.map_cons, List.map_nil]
  exact this
theorem zero_wr : Tryz.zeroCells131.size = 65 := by kernel_rfl
theorem built_wr (s : Int) (x : Bk) (hx : x.length = 64) : List.foldl (fun (cs : Array Value) (x : Value × Nat) => cs.setIfInBounds (1 + x.2) x.1) (Tryz.zeroCells131.setIfInBounds 0 (.int .i64 s)) (bkC x).zipIdx = (wrC s x).toArray := by
  have hb : (bkC x).length = 64 := by rw [bkC_len, hx]
  have hz1 : (Tryz.zeroCells131.setIfInBounds 0 (.int .i64 s)).size = 65 := by rw [Array.size_setIfInBounds, zero_wr]
  obtain ⟨_, f2⟩ := Go.Great.foldl_set 1 (bkC x) 0 (Tryz.zeroCells131.setIfInBounds 0 (.int .i64 s))
  apply Array.ext_getElem?
  intro k
  rw [f2 k, hz1]
  by_cases hk : k < 65
  · by_cases hk0 : k = 0
    · subst hk0
      rw [if_neg (by omega), Array.getElem?_setIfInBounds_self_of_lt (by rw [zero_wr]; omega)]
      simp
    · rw [if_pos ⟨by omega, by omega, hk⟩]
      obtain ⟨m, rfl⟩ : ∃ m, k = m + 1 := ⟨k - 1, by omega⟩
      simp
  · rw [if_neg (by omega), Array.getElem?_eq_none (by omega), Array.getElem?_eq_none (by simp [hb]; omega)]
theorem run_append_sl {P : Program} {w : World} {e : TypeId} {k n m : Nat} {v x' : Value} {xs news : List Value} (t ty : TypeId)
    (i : TypeInfo) (z : Value) (bytes : Nat) (ht : P.underlying t = some (.slice e)) (hi : P.info? e = some i) (hz : i.zero = some z)
    (hsize : i.size = k) (hby : i.bytes = bytes) (hzs : z.cells.size = k) (hsz : 0 < k)
    (hown : Sl w e k v n xs) (hr : Rd w k x' m news) (h1 : ∀ u ∈ news, u.oneCell' = true) (h63 : n + m ≤ maxLen) (hbytes : (n + m) * bytes ≤ 140737488355328) :
    ∃ v' w', (Builtin.append_ #[t, t] ty #[v, x']).run P w = .ok v' w' ∧ Sl w' e k v' (n + m) (xs ++ news) ∧ Upd (ownS v) w w' ∧ blockFrom w v v' := by
  obtain ⟨hnl, hml, ao, xc, rfl, hx0, hxc⟩ := hr
  cases ao with
  | none =>
    have hm0 := hx0 rfl
    subst hm0
    obtain rfl : news = [] := List.eq_nil_of_length_eq_zero (by simpa using hnl)
    refine ⟨v, w, ?_, by simpa using hown, Upd.refl _ _, .inl rfl⟩
    obtain ⟨_, ⟨rfl, rfl⟩ | ⟨g, off, cap, cur, rfl, hg, hnc, hcm, hcs, hcell⟩⟩ := hown
    · simp [Builtin.append_, run_underlying ht, sizeOf, typeInfo, hi, Builtin.lenOf, Builtin.firstCells]
    · simp [Builtin.append_, run_underlying ht, sizeOf, typeInfo, hi, Builtin.lenOf, Builtin.firstCells, hnc, storeCells]
  | some ad =>
    have hac' := hxc ad rfl
    have hown' := hown
    obtain ⟨hl, ⟨rfl, rfl⟩ | ⟨g, off, cap, cur, rfl, hg, hnc, hcm, hcs, hcell⟩⟩ := hown
    · obtain rfl : xs = [] := List.eq_nil_of_length_eq_zero (by simpa using hl)
      cases m with
      | zero =>
        obtain rfl : news = [] := List.eq_nil_of_length_eq_zero (by simpa using hnl)
        refine ⟨.slice none 0 0, w, ?_, by simpa using hown', Upd.refl _ _, .inl rfl⟩
        simp [Builtin.append_, run_underlying ht, sizeOf, typeInfo, hi, Builtin.lenOf, Builtin.firstCells, loadCells, loadCellsFrom]
      | succ m =>
        obtain ⟨v', w', hrun, r1, r2, _⟩ := run_append_own (P := P) w w.heap.size t ty e i z k bytes ht hi hz hsize hby hzs hsz (.slice none 0 0) 0 [] (World.ownsRow_nil w _ e k) ad (m + 1) xc news hnl hac' h1 h63 hbytes (Nat.le_refl _)
        refine ⟨v', w', hrun, Sl.of_own r1, Upd.of_grown r2 (fun g hg _ => by cases hg), ?_⟩
        rcases r1.2 with ⟨rfl, h0⟩ | ⟨g', cap', cur', rfl, hb', _⟩
        · omega
        · exact .inr ⟨g', rfl, hb'⟩
    · by_cases hroom : n + m ≤ cap
      · have hm := Nat.mul_le_mul_right k hroom
        rw [Nat.add_mul] at hm
        subst hsize
        have hrun := run_append_room_cells (P := P) w t ty e i ht hi g off n cap ad m xc news hnl hac' h1 hroom (fun j hj => by rw [cell_of_block hg]; simp; omega) (fun j _ => frozen_of_block hg _)
        obtain ⟨cur', h2, h3, h4⟩ := heap_setCells_same news (off + n * i.size) w g cur e (0, 0) hg
        refine ⟨_, _, hrun, ⟨by rw [List.length_append, hl, hnl, Nat.add_mul], .inr ⟨g, off, cap, cur', rfl, h2, hroom, hcm, by omega, fun j u hj => ?_⟩⟩, upd_setCells _ w g _ news rfl, .inl rfl⟩
        rw [h4]
        by_cases hj1 : j < xs.length
        · rw [List.getElem?_append_left hj1] at hj
          rw [if_neg (by omega)]
          exact hcell j u hj
        · rw [List.getElem?_append_right (by omega)] at hj
          have hlt := (List.getElem?_eq_some_iff.1 hj).1
          rw [if_pos ⟨by omega, by omega, by omega⟩]
          have : off + j - (off + n * i.size) = j - xs.length := by omega
          rw [this]; exact hj
      · obtain ⟨v', w', hrun, r1, r2⟩ := run_append_arg_grows (P := P) w t ty e i z k bytes ht hi hz hsize hby hzs hsz ⟨g, off, none⟩ n cap xs hl (fun j u hj => by rw [Addr.add_lit, cell_of_block hg]; exact hcell j u hj) ad m xc news hnl hac' (by omega) h63 hbytes
        refine ⟨v', w', hrun, Sl.of_own r1, Upd.of_grown r2 (fun g hg _ => by cases hg), ?_⟩
        rcases r1.2 with ⟨rfl, h0⟩ | ⟨g', cap', cur', rfl, hb', _⟩
        · omega
        · exact .inr ⟨g', rfl, hb'⟩
attribute [local go_sem ↓] wp_build_wr wp_row_wr run_build_map run_row_map Go.wp_at_zero Go.wp_at_succ
theorem opC_snoc (O : List (Nat × Bk)) (s : Nat) (x : Bk) : opC (O ++ [(s, x)]) = opC O ++ wrC s x := by simp [opC, wrC]
theorem sizeBk (x : Bk) (hx : x.length = 64) : (Tryz.prog.info? 54).map (·.size) = some (bkC x).length := by
  obtain ⟨i, hi, _, h1, _⟩ := info_parts infoBk
  rw [hi, bkC_len, hx, Option.map_some, h1]
theorem DvGood.write {F : List Bk} {O : List (Nat × Bk)} {P : List Int} (h : DvGood F O P) {s : Nat} {x : Bk} (hs : s < F.length) (hx : x.length = 64) (ho : O.length < 65536) : DvGood F (O ++ [(s, x)]) P := { h with
  o64 := by intro p hp; rcases List.mem_append.1 hp with h1 | h1; exact h.o64 p h1; simp at h1; subst h1; exact ⟨hx, hs⟩
  ol := by simp; omega }
theorem cell_keep_alloc {w : World} {a : Addr} {v : Value} (h : w.cell? a = some v) (o : Obj) : (w.alloc o).cell? a = some v := by
  rw [World.cell?_alloc_some w a o (by rw [h]; rfl), h]
theorem Upd.cellv {S : Nat → Prop} {w w' : World} (hu : Upd S w w') {g o : Nat} {v : Value} (h : w.cell? ⟨g, o, none⟩ = some v) (hn : ¬ S g) : w'.cell? ⟨g, o, none⟩ = some v := by
  have e := hu.block g (World.block_lt_of_cell? w _ h) hn
  unfold World.cell? at *
  simp only [e]; exact h
theorem Upd.range {S : Nat → Prop} {w w' : World} (hu : Upd S w w') {g o : Nat} {cs : List Value} (h : w.rangeAt g o cs) (hn : ¬ S g) : w'.rangeAt g o cs := fun j v hv => hu.cellv (h j v hv) hn
theorem cell_keep_set {w : World} {g o b o' : Nat} {v u : Value} (h : w.cell? ⟨g, o, none⟩ = some v) (hne : ¬ b = g) : (w.setCell ⟨b, o', none⟩ u).cell? ⟨g, o, none⟩ = some v := by
  rw [World.cell?_setCell_other _ _ _ _ (fun e => hne (congrArg Addr.block e)), h]
theorem range_keep_set {w : World} {g o b o' : Nat} {cs : List Value} {u : Value} (h : w.rangeAt g o cs) (hne : ¬ b = g) : (w.setCell ⟨b, o', none⟩ u).rangeAt g o cs := fun j v hv => cell_keep_set (h j v hv) hne
theorem step_append_run {P : Program} {ops : Array Oper} {o : Oper} {a : Act} {w : World} {K : Act → World → Prop} {Q : Exit → Act → World → Prop} {E : Prop}
    (hg : o.guard = none) (s x : Operand) (t : TypeId) (hop : o.op = Op.call { callee := Callee.builtin Builtin.append, args := #[s, x], argTypes := #[t, t] })
    {vs vx v' : Value} {w' : World} (hs : a.eval s = vs) (hx : a.eval x = vx) (hrun : (Builtin.append_ #[t, t] o.type #[vs, vx]).run P w = .ok v' w')
    (hK : K (a.put o.dst v') w') :
    if Region.wanted o (yielded ops a.tmps) = true then Oper.wp P o a w K Q else E := by
  have hw : Region.wanted o (yielded ops a.tmps) = true := by simp [Region.wanted, hg]
  rw [if_pos hw]
  unfold Oper.wp
  simp [execOp, hop, resolve, invoke, builtin, hs, hx, hrun, Result.andThen]
  exact hK
set_option maxRecDepth 100000 in
set_option maxHeartbeats 1000000 in
theorem dwrite1 {S : Nat → Prop} {w : World} {b g0 g1 g2 : Nat} {F : List Bk} {O : List (Nat × Bk)} {P : List Int} (h : Dv S w b F O P) (hn : ∀ j, w.heap.size ≤ j → S j) (s : Nat) (x : Bk) (hs : s < F.length) (hx : x.length = 64) (hO : O.length < 65536)
    (c0 : w.cell? ⟨g0, 0, none⟩ = some (.pointer (some ⟨b, 0, none⟩))) (c1 : w.cell? ⟨g1, 0, none⟩ = some (.int .i64 (s : Int))) (c2 : w.rangeAt g2 0 (bkC x))
    (s0 : ¬ S g0) (s1 : ¬ S g1) (s2 : ¬ S g2) :
    Calls Tryz.prog 64 #[.pointer (some ⟨g0, 0, none⟩), .pointer (some ⟨g1, 0, none⟩), .pointer (some ⟨g2, 0, none⟩)] w fun e w' => e = .returned (.tuple #[]) ∧ Dv S w' b F (O ++ [(s, x)]) P ∧ Upd S w w' := by
  obtain ⟨vf, vo, vp, h, hS⟩ := h
  obtain ⟨i, z, hi, hz, hzs, hsz, hby⟩ := infoWr_parts
  have hu : Upd (fun _ => False) w (w.alloc (.cells (wrC s x).toArray 131)).drew := ((Upd.refl _ _).alloc _).drew
  have hd := h.new hu
  have hrd : Rd (w.alloc (.cells (wrC s x).toArray 131)).drew 65 (.slice (some ⟨w.heap.size, 0, none⟩) 1 1) 1 (wrC s x) :=
    Rd.keep (Rd.fresh w (wrC s x) 131 1 (by rw [wrC_len, hx]) (by unfold maxLen; omega)) ((Upd.refl (fun _ => False) _).drew) (fun _ _ h => h)
  obtain ⟨v', w1, hrun, hs1, hu1, hbf⟩ := run_append_sl 121 121 i z 72 Tryz.underlying121 hi hz hsz hby hzs (by decide) hd.os hrd (wrC_one s x) (by unfold maxLen; omega) (by omega)
  rw [← opC_snoc] at hs1
  have hln : O.length + 1 = (O ++ [(s, x)]).length := by simp
  rw [hln] at hs1
  obtain ⟨ao1, c1', rfl⟩ := hs1.rd.nil_iff
  have hD := Lib.hid (hd.setOpen hu1 hs1 hbf (hd.good.write hs hx hO))
  have hstr1 := (hu1.block b hd.blt (fun e => hd.ob e)).trans hd.str
  have k1 := cell_of_block hstr1 1
  have k2 := frozen_of_block hstr1 1
  simp at k1
  obtain ⟨-, d1, -⟩ := h.c
  have hbl := built_wr (s : Int) x hx
  have hut := Tryz.underlying54
  have hsi := sizeBk x hx
  have hlx : (bkC x).length = 64 := by rw [bkC_len, hx]
  have h1x := bkC_one x
  have hS1 : ∀ g, ¬ S g → ¬ ownS vo g := fun g hg e => hg (hS g (.inr (.inr (.inl e))))
  have q0 := hu1.cellv (cell_keep_alloc c0 _) (hS1 g0 s0)
  have q1 := hu1.cellv (cell_keep_alloc c1 _) (hS1 g1 s1)
  have q2 := hu1.range (World.rangeAt_alloc c2 _) (hS1 g2 s2)
  have p0 : ¬ b = g0 := fun e => s0 (e ▸ hS b (.inl rfl))
  have p1 : ¬ b = g1 := fun e => s1 (e ▸ hS b (.inl rfl))
  have p2 : ¬ b = g2 := fun e => s2 (e ▸ hS b (.inl rfl))
  have d2 := cell_keep_alloc d1 (.cells (wrC s x).toArray 131)
  have n0 := World.new_ne w _ c0
  have n1 := World.new_ne w _ c1
  have nb := World.new_ne w _ d1
  have HX := Lib.hid (And.intro hS (And.intro hn (And.intro hbf (And.intro hu hu1))))
  clear hS1 hd hs1 hu1 hbf hu hrd hstr1 hS hn hln h
  go_enter Tryz.func64, Tryz.ntmps64
  refine wp_region_held_drew (S := fun W => W.cell? ⟨g0, 0, none⟩ = some (.pointer (some ⟨b, 0, none⟩)) ∧ W.cell? ⟨g1, 0, none⟩ = some (.int .i64 (s : Int)) ∧ W.rangeAt g2 0 (bkC x)) (by kernel_rfl) (by (go_split_ands; (simp only [World.rangeAt_drew, World.cell?_drew] at *); ((repeat' constructor) <;> first | assumption | (apply cell_keep_alloc; assumption) | (refine cell_keep_set ?_ ?_ <;> assumption) | (refine range_keep_set ?_ ?_ <;> assumption) | (apply World.rangeAt_alloc; assumption) | (apply World.there_alloc; assumption)))) (fun hHeld => ?_)
  refine Wl.i [0, 1, 2, 3, 5] ?_; iterate 5 refine Wl.t hHeld ?_
  refine Wl.o ?_
  refine Wl.l 6 (fun w h => h.2.2) hut hsi hHeld ?_
  refine Wl.i [7] (Wl.t hHeld (Wl.o ?_))
  refine wpAnyH_ready (rs := [4, 8]) (by kernel_rfl) (by simp) ?_
  refine AllReadyH.cons rfl (fun K hK => ?_) (AllReadyH.cons rfl (fun K hK => ?_) AllReadyH.nil)
  · go_simp
    refine hK.out _ _ (by (go_split_ands; (simp only [World.rangeAt_drew, World.cell?_drew] at *); ((repeat' constructor) <;> first | assumption | (apply cell_keep_alloc; assumption) | (refine cell_keep_set ?_ ?_ <;> assumption) | (refine range_keep_set ?_ ?_ <;> assumption) | (apply World.rangeAt_alloc; assumption) | (apply World.there_alloc; assumption)))) (fun hH1 => ?_)
    clear hK K
    refine Wl.r 8 (fun K hK => ?_)
    go_simp
    refine hK.out _ _ (by (go_split_ands; (simp only [World.rangeAt_drew, World.cell?_drew] at *); ((repeat' constructor) <;> first | assumption | (apply cell_keep_alloc; assumption) | (refine cell_keep_set ?_ ?_ <;> assumption) | (refine range_keep_set ?_ ?_ <;> assumption) | (apply World.rangeAt_alloc; assumption) | (apply World.there_alloc; assumption)))) (fun hH2 => ?_)
    clear hK K
    refine Wl.r 9 (fun K hK => ?_)
    refine step_append_run rfl _ _ _ rfl rfl rfl hrun ?_
    refine hK.out _ _ (by (go_split_ands; (simp only [World.rangeAt_drew, World.cell?_drew] at *); ((repeat' constructor) <;> first | assumption | (apply cell_keep_alloc; assumption) | (refine cell_keep_set ?_ ?_ <;> assumption) | (refine range_keep_set ?_ ?_ <;> assumption) | (apply World.rangeAt_alloc; assumption) | (apply World.there_alloc; assumption)))) (fun hH3 => ?_)
    clear hK K
    refine Wl.i [10, 11] ?_; iterate 2 refine Wl.t hH3 ?_
    refine Wl.o ?_
    refine Wl.r 12 (fun K hK => ?_)
    go_simp
    refine hK.out _ _ (by (go_split_ands; (simp only [World.rangeAt_drew, World.cell?_drew] at *); ((repeat' constructor) <;> first | assumption | (apply cell_keep_alloc; assumption) | (refine cell_keep_set ?_ ?_ <;> assumption) | (refine range_keep_set ?_ ?_ <;> assumption) | (apply World.rangeAt_alloc; assumption) | (apply World.there_alloc; assumption)))) (fun hH4 => ?_)
    clear hK K
    refine Wl.d ?_
    go_end0
    obtain ⟨hS, hn, hbf, hu, hu1⟩ := HX.out
    have hD' := hD.out
    have hl' : (O ++ [(s, x)]).length = O.length + 1 := by simp
    rw [hl'] at hD' hbf
    refine ⟨rfl, ⟨vf, _, vp, hD', ?_⟩, ?_⟩
    · rintro j (rfl | h | h | h)
      · exact hS _ (.inl rfl)
      · exact hS _ (.inr (.inl h))
      · rcases hbf with e | ⟨g, eg, hge⟩
        · exact hS _ (.inr (.inr (.inl (e ▸ h))))
        · rw [eg] at h
          cases h
          exact hn _ (Nat.le_trans hu.size hge)
      · exact hS _ (.inr (.inr (.inr h)))
    · exact ((hu.mono (fun _ _ h => h.elim)).trans (hu1.mono (fun k _ hk => hS _ (.inr (.inr (.inl hk)))))).trans (Upd.mono (upd_setCell _ _ _ _) (fun k _ hk => hk ▸ hS _ (.inl rfl)))
  · go_simp
    refine hK.out _ _ (by (go_split_ands; (simp only [World.rangeAt_drew, World.cell?_drew] at *); ((repeat' constructor) <;> first | assumption | (apply cell_keep_alloc; assumption) | (refine cell_keep_set ?_ ?_ <;> assumption) | (refine range_keep_set ?_ ?_ <;> assumption) | (apply World.rangeAt_alloc; assumption) | (apply World.there_alloc; assumption)))) (fun hH1 => ?_)
    clear hK K
    refine Wl.r 4 (fun K hK => ?_)
    go_simp
    refine hK.out _ _ (by (go_split_ands; (simp only [World.rangeAt_drew, World.cell?_drew] at *); ((repeat' constructor) <;> first | assumption | (apply cell_keep_alloc; assumption) | (refine cell_keep_set ?_ ?_ <;> assumption) | (refine range_keep_set ?_ ?_ <;> assumption) | (apply World.rangeAt_alloc; assumption) | (apply World.there_alloc; assumption)))) (fun hH2 => ?_)
    clear hK K
    refine Wl.r 9 (fun K hK => ?_)
    refine step_append_run rfl _ _ _ rfl rfl rfl hrun ?_
    refine hK.out _ _ (by (go_split_ands; (simp only [World.rangeAt_drew, World.cell?_drew] at *); ((repeat' constructor) <;> first | assumption | (apply cell_keep_alloc; assumption) | (refine cell_keep_set ?_ ?_ <;> assumption) | (refine range_keep_set ?_ ?_ <;> assumption) | (apply World.rangeAt_alloc; assumption) | (apply World.there_alloc; assumption)))) (fun hH3 => ?_)
    clear hK K
    refine Wl.i [10, 11] ?_; iterate 2 refine Wl.t hH3 ?_
    refine Wl.o ?_
    refine Wl.r 12 (fun K hK => ?_)
    go_simp
    refine hK.out _ _ (by (go_split_ands; (simp only [World.rangeAt_drew, World.cell?_drew] at *); ((repeat' constructor) <;> first | assumption | (apply cell_keep_alloc; assumption) | (refine cell_keep_set ?_ ?_ <;> assumption) | (refine range_keep_set ?_ ?_ <;> assumption) | (apply World.rangeAt_alloc; assumption) | (apply World.there_alloc; assumption)))) (fun hH4 => ?_)
    clear hK K
    refine Wl.d ?_
    go_end0
    obtain ⟨hS, hn, hbf, hu, hu1⟩ := HX.out
    have hD' := hD.out
    have hl' : (O ++ [(s, x)]).length = O.length + 1 := by simp
    rw [hl'] at hD' hbf
    refine ⟨rfl, ⟨vf, _, vp, hD', ?_⟩, ?_⟩
    · rintro j (rfl | h | h | h)
      · exact hS _ (.inl rfl)
      · exact hS _ (.inr (.inl h))
      · rcases hbf with e | ⟨g, eg, hge⟩
        · exact hS _ (.inr (.inr (.inl (e ▸ h))))
        · rw [eg] at h
          cases h
          exact hn _ (Nat.le_trans hu.size hge)
      · exact hS _ (.inr (.inr (.inr h)))
    · exact ((hu.mono (fun _ _ h => h.elim)).trans (hu1.mono (fun k _ hk => hS _ (.inr (.inr (.inl hk)))))).trans (Upd.mono (upd_setCell _ _ _ _) (fun k _ hk => hk ▸ hS _ (.inl rfl)))
theorem Dv.shrink {S T : Nat → Prop} {w : World} {b : Nat} {F : List Bk} {O : List (Nat × Bk)} {P : List Int} (h : Dv S w b F O P) (hT : ∀ j, S j → j < w.heap.size → T j) : Dv T w b F O P := by
  obtain ⟨vf, vo, vp, h, hS⟩ := h
  exact ⟨vf, vo, vp, h, fun j hj => hT j (hS j hj) (h.slt j hj)⟩
theorem Dv.wide {S T : Nat → Prop} {w : World} {b : Nat} {F : List Bk} {O : List (Nat × Bk)} {P : List Int} (h : Dv S w b F O P) (hT : ∀ j, S j → T j) : Dv T w b F O P := by
  obtain ⟨vf, vo, vp, h, hS⟩ := h
  exact ⟨vf, vo, vp, h, fun j hj => hT j (hS j hj)⟩
theorem Dv.sb {S : Nat → Prop} {w : World} {b : Nat} {F : List Bk} {O : List (Nat × Bk)} {P : List Int} (h : Dv S w b F O P) : S b ∧ b < w.heap.size := by
  obtain ⟨vf, vo, vp, h, hS⟩ := h
  exact ⟨hS b (.inl rfl), h.blt⟩
theorem hasC_zero {n : Nat} {s : Int} (h : hasC n s = 0) : (s.toNat : Int) = s ∧ s.toNat < n := by
  unfold hasC at h
  split at h
  · omega
  · omega
def WritePost (S : Nat → Prop) (w : World) (b : Nat) (F : List Bk) (O : List (Nat × Bk)) (P : List Int) (s : Int) (x : Bk) (e : Ending) (w' : World) : Prop :=
  (hasC F.length s ≠ 0 ∧ e = .returned (.int .i64 (hasC F.length s)) ∧ Dv S w' b F O P ∧ Upd S w w') ∨
  (hasC F.length s = 0 ∧ fate P = 1 ∧ e = .returned (.int .i64 20) ∧ Dv S w' b F O P.tail ∧ Upd S w w') ∨
  (hasC F.length s = 0 ∧ fate P = 0 ∧ e = .returned (.int .i64 0) ∧ Dv S w' b F (O ++ [(s.toNat, x)]) P.tail ∧ Upd S w w') ∨
  (hasC F.length s = 0 ∧ fate P ≠ 0 ∧ fate P ≠ 1 ∧ e = .returned (.int .i64 0) ∧ Dv S w' b F O P.tail ∧ Upd S w w')
set_option maxRecDepth 100000 in
set_option maxHeartbeats 1000000 in
theorem dwrite {S : Nat → Prop} {w : World} {b : Nat} {F : List Bk} {O : List (Nat × Bk)} {P : List Int} (h : Dv S w b F O P) (hn : ∀ j, w.heap.size ≤ j → S j) (s : Int) (x : Bk) (hx : x.length = 64) (hO : O.length < 65536) :
    Calls Tryz.prog 18 #[.pointer (some ⟨b, 0, none⟩), .int .i64 s, bkV x] w (WritePost S w b F O P s x) := by
  have hmf : ∀ (fn : Fn) (first cap : Array Value) (w : World), (Instr.makeFunc fn first cap).run Tryz.prog w = .ok (.func fn first cap) w := fun _ _ _ _ => rfl
  have H := Lib.hid (And.intro h (And.intro hn (And.intro hx hO)))
  clear h hn hx hO
  go_enter Tryz.func18, Tryz.ntmps18
  go_wp2_with fail
  rename_i xv cs heq
  obtain rfl : (bkC x).toArray = cs := by injection heq
  clear heq
  have hu : Upd (fun _ => False) w (((w.alloc (.cells #[.pointer (some ⟨b, 0, none⟩)] 46)).alloc (.cells #[.int .i64 s] 3)).alloc (.cells (bkC x).toArray 54)) := (((Upd.refl _ w).alloc _).alloc _).alloc _
  have c0 : (((w.alloc (.cells #[.pointer (some ⟨b, 0, none⟩)] 46)).alloc (.cells #[.int .i64 s] 3)).alloc (.cells (bkC x).toArray 54)).cell? ⟨w.heap.size, 0, none⟩ = some (.pointer (some ⟨b, 0, none⟩)) :=
    cell_keep_alloc (cell_keep_alloc (cell_of_block (heap_alloc_last w _ rfl) 0) _) _
  have c1 : (((w.alloc (.cells #[.pointer (some ⟨b, 0, none⟩)] 46)).alloc (.cells #[.int .i64 s] 3)).alloc (.cells (bkC x).toArray 54)).cell? ⟨w.heap.size + 1, 0, none⟩ = some (.int .i64 s) :=
    cell_keep_alloc (cell_of_block (heap_alloc_last _ _ (by simp)) 0) _
  have c2 : (((w.alloc (.cells #[.pointer (some ⟨b, 0, none⟩)] 46)).alloc (.cells #[.int .i64 s] 3)).alloc (.cells (bkC x).toArray 54)).rangeAt (w.heap.size + 1 + 1) 0 (bkC x) := fun j v hv => by
    rw [cell_of_block (heap_alloc_last _ _ (by simp))]; simpa using hv
  have hsz : (((w.alloc (.cells #[.pointer (some ⟨b, 0, none⟩)] 46)).alloc (.cells #[.int .i64 s] 3)).alloc (.cells (bkC x).toArray 54)).heap.size = w.heap.size + 3 := by simp
  generalize (((w.alloc (.cells #[.pointer (some ⟨b, 0, none⟩)] 46)).alloc (.cells #[.int .i64 s] 3)).alloc (.cells (bkC x).toArray 54)) = w3 at hu c0 c1 c2 hsz ⊢
  have hd3 : Dv S w3 b F O P := H.out.1.keep hu (fun _ _ h => h)
  have HX := Lib.hid (And.intro hd3 (And.intro hu (And.intro c2 hsz)))
  clear hd3 hu c2 hsz
  refine (dhas HX.out.1 s).mono ?_
  rintro e w4 ⟨rfl, rfl⟩
  by_cases hz : hasC F.length s = 0
  · have HZ := Lib.hid hz
    rw [hz]
    clear hz
    go_wp2_with fail
    obtain ⟨hd0, hn, hx, hO⟩ := H.out
    obtain ⟨-, hu, c2, hsz⟩ := HX.out
    have hS' : ∀ j, ((S j ∧ j < w.heap.size) ∨ w.heap.size + 3 ≤ j) → S j := by
      rintro j (⟨h, -⟩ | h)
      · exact h
      · exact hn j (by omega)
    have hd4 : Dv (fun j => (S j ∧ j < w.heap.size) ∨ w.heap.size + 3 ≤ j) w4 b F O P := (hd0.shrink (fun j hj hl => .inl ⟨hj, hl⟩)).keep hu (fun _ _ h => h)
    have hbS := hd0.sb
    have hzz := hasC_zero HZ.out
    have HO := Lib.hid (And.intro hS' hu)
    have HZ2 := Lib.hid HZ.out
    refine (dcall hd4 20 64 _ (fun W => Dv (fun j => (S j ∧ j < w.heap.size) ∨ w.heap.size + 3 ≤ j) W b F (O ++ [(s.toNat, x)]) P.tail ∧ Upd (fun j => (S j ∧ j < w.heap.size) ∨ w.heap.size + 3 ≤ j) w4 W) (fun _ _ => rfl) ?_).mono ?_
    · intro h0 w1 hd1 hu1
      have hb4 : ∀ k, ¬ w.heap.size + k = b := fun k => by omega
      refine (dwrite1 hd1 (fun j hj => .inr (by have := hu1.size; omega)) s.toNat x hzz.2 hx hO (hu1.cellv c0 (hb4 0)) (by rw [hzz.1]; exact hu1.cellv c1 (hb4 1)) (hu1.range c2 (hb4 2)) (by omega) (by omega) (by omega)).mono ?_
      rintro e w' ⟨rfl, hD, hU⟩
      exact ⟨rfl, hD, (hu1.mono (fun j _ hj => hj ▸ .inl ⟨hbS.1, hbS.2⟩)).trans hU⟩
    · clear hd4 hd0 hn hx hO hu c2 hsz hS' c0 c1 hzz
      have HB := Lib.hid hbS
      clear hbS
      rintro e w5 (⟨h1, rfl, hD, hU⟩ | ⟨h1, rfl, hD, hU⟩ | ⟨h1, h2, rfl, hD, hU⟩)
      · have D := Lib.hid (And.intro h1 (And.intro hD hU))
        clear h1 hD hU
        go_wp2
        go_ret
        exact .inr (.inl ⟨HZ.out, D.out.1, rfl, D.out.2.1.wide HO.out.1, (HO.out.2.mono (fun _ _ h => h.elim)).trans (D.out.2.2.mono (fun j _ hj => hj ▸ HB.out.1))⟩)
      · have D := Lib.hid (And.intro h1 (And.intro hD hU))
        clear h1 hD hU
        go_wp2
        go_ret
        exact .inr (.inr (.inl ⟨HZ.out, D.out.1, rfl, D.out.2.1.wide HO.out.1, (HO.out.2.mono (fun _ _ h => h.elim)).trans (D.out.2.2.mono (fun j _ hj => HO.out.1 j hj))⟩))
      · have D := Lib.hid (And.intro h1 (And.intro h2 (And.intro hD hU)))
        clear h1 h2 hD hU
        go_wp2
        go_ret
        exact .inr (.inr (.inr ⟨HZ.out, D.out.1, D.out.2.1, rfl, D.out.2.2.1.wide HO.out.1, (HO.out.2.mono (fun _ _ h => h.elim)).trans (D.out.2.2.2.mono (fun j _ hj => hj ▸ HB.out.1))⟩))
  · have HZ := Lib.hid hz
    have hz' : (hasC F.length s == 0) = false := by simpa using hz
    clear hz
    go_wp2
    go_ret
    exact .inl ⟨HZ.out, rfl, HX.out.1, HX.out.2.1.mono (fun _ _ h => h.elim)⟩
def flushF (F : List Bk) (O : List (Nat × Bk)) : List Bk := O.foldl (fun F p => F.set p.1 p.2) F
theorem flushF_snoc (F : List Bk) (O : List (Nat × Bk)) (p : Nat × Bk) : flushF F (O ++ [p]) = (flushF F O).set p.1 p.2 := by simp [flushF]
theorem flushF_len (F : List Bk) (O : List (Nat × Bk)) : (flushF F O).length = F.length := by
  induction O generalizing F with
  | nil => rfl
  | cons p O ih => simp only [flushF, List.foldl_cons] at ih ⊢; rw [ih]; simp
theorem opC_at {O : List (Nat × Bk)} (h : ∀ p ∈ O, p.2.length = 64) {i : Nat} (hi : i < O.length) {j : Nat} (hj : j < 65) : (opC O)[i * 65 + j]? = (wrC O[i].1 O[i].2)[j]? := by
  induction O generalizing i with
  | nil => simp at hi
  | cons x O ih =>
    have h1 := h x (by simp)
    cases i with
    | zero =>
      simp only [opC, List.flatMap_cons, Nat.zero_mul, Nat.zero_add, List.getElem_cons_zero]
      rw [List.getElem?_append_left (by simp [bkC_len, h1]; exact hj)]
    | succ i =>
      simp only [opC, List.flatMap_cons, List.getElem_cons_succ]
      rw [List.getElem?_append_right (by simp [bkC_len, h1]; omega)]
      have := ih (fun y hy => h y (by simp [hy])) (i := i) (by simpa using hi)
      rw [← this]
      simp only [List.length_cons, bkC_len, h1]
      congr 1
      omega
section
variable {w w' w2 : World} {b : Nat} {vf vo vp v2 : Value} {F F' : List Bk} {O O' : List (Nat × Bk)} {P P' : List Int}
theorem DvAt.opRange (h : DvAt w b vf vo vp F O P) {k : Nat} (hk : k < O.length) : ∃ g off cap, vo = .slice (some ⟨g, off, none⟩) O.length cap ∧ g < w.heap.size ∧ O.length ≤ cap ∧ w.rangeAt g (off + k * 65) (wrC O[k].1 O[k].2) := by
  obtain ⟨hl, ⟨_, h0⟩ | ⟨g, off, cap, cur, rfl, hg, hn, hm, hs, hc⟩⟩ := h.os
  · omega
  · refine ⟨g, off, cap, rfl, lt_of_block hg, hn, fun j v hj => ?_⟩
    have ho : ∀ p ∈ O, p.2.length = 64 := fun p hp => (h.good.o64 p hp).1
    have hj' := (List.getElem?_eq_some_iff.1 hj).1
    rw [wrC_len, ho _ (List.getElem_mem hk)] at hj'
    rw [cell_of_block hg, Nat.add_assoc]
    exact hc _ _ (by rw [opC_at ho hk hj']; exact hj)
theorem DvAt.fiRange (h : DvAt w b vf vo vp F O P) {k : Nat} (hk : k < F.length) : ∃ g off cap, vf = .slice (some ⟨g, off, none⟩) F.length cap ∧ g < w.heap.size ∧ F.length ≤ cap ∧ w.rangeAt g (off + k * 64) (bkC F[k]) ∧ w.there g (off + k * 64) 64 := by
  obtain ⟨hl, ⟨_, h0⟩ | ⟨g, off, cap, cur, rfl, hg, hn, hm, hs, hc⟩⟩ := h.fs
  · omega
  · have := Nat.mul_le_mul_right 64 hn
    exact ⟨g, off, cap, rfl, lt_of_block hg, hn, row_range h.good.f64 hg hc hk, row_there hg hk (by omega)⟩
theorem DvAt.setFirm {g off cap : Nat} (h : DvAt w b (.slice (some ⟨g, off, none⟩) F.length cap) vo vp F O P) {s : Nat} (hs : s < F.length) {x : Bk} (hx : x.length = 64) :
    DvAt (w.setCells g (off + s * 64) (bkC x)) b (.slice (some ⟨g, off, none⟩) F.length cap) vo vp (F.set s x) O P := by
  have hu := upd_row w g (off + s * 64) (bkC x)
  have hne : g ≠ b := fun e => h.fb (by simp [Value.ownBlock, e])
  have hfs := Sl.row_set h.good.f64 h.fs hs hx
  rw [List.length_set] at hfs
  have hlen : (F.set s x).length = F.length := List.length_set
  exact { h with
    str := (hu.block b h.blt (fun e => hne e.symm)).trans h.str
    fs := by rw [hlen]; exact hfs
    os := h.os.keep hu (fun g' hg' e => h.fo g' (by simp [Value.ownBlock, e]) hg')
    ps := h.ps.keep hu (fun g' hg' e => h.fp g' (by simp [Value.ownBlock, e]) hg')
    good := { h.good with f64 := h.good.f64.set s hx, o64 := by rw [hlen]; exact h.good.o64, f1 := by rw [hlen]; exact h.good.f1, fl := by rw [hlen]; exact h.good.fl } }
theorem DvAt.openNil (h : DvAt w b vf vo vp F O P) : DvAt (w.setCell ⟨b, 1, none⟩ (.slice none 0 0)) b vf (.slice none 0 0) vp F [] P :=
  { str := heap_setCell_same h.str 1 _
    fs := h.fs.keep_ne (upd_setCell _ _ _ _) h.fb
    os := Sl.nil _ _ _
    ps := h.ps.keep_ne (upd_setCell _ _ _ _) h.pb
    good := { h.good with o64 := by simp, ol := by simp }
    fb := h.fb
    ob := by simp [Value.ownBlock]
    pb := h.pb
    fo := (Dis.nil _ _ _).symm
    fp := h.fp
    op := Dis.nil _ _ _ }
end
theorem flushF_take {F : List Bk} {O : List (Nat × Bk)} {k : Nat} (hk : k < O.length) : flushF F (O.take (k + 1)) = (flushF F (O.take k)).set O[k].1 O[k].2 := by
  rw [List.take_succ_eq_append_getElem hk, flushF_snoc]
theorem sizeWr (s : Int) (x : Bk) (hx : x.length = 64) : (Tryz.prog.info? 131).map (·.size) = some (wrC s x).length := by
  obtain ⟨i, z, hi, _, _, h1, _⟩ := infoWr_parts
  rw [hi, wrC_len, hx, Option.map_some, h1]
theorem cell_keep_setCells {w : World} {g o b o' : Nat} {v : Value} {vs : List Value} (h : w.cell? ⟨g, o, none⟩ = some v) (hne : ¬ g = b) : (w.setCells b o' vs).cell? ⟨g, o, none⟩ = some v := by
  rw [World.cell?_setCells_out b vs o' w _ (fun e _ => absurd e hne), h]
set_option maxRecDepth 100000 in
set_option maxHeartbeats 1000000 in
theorem dflush1 {S : Nat → Prop} {w : World} {b g0 : Nat} {F : List Bk} {O : List (Nat × Bk)} {P : List Int} (h : Dv S w b F O P) (hn : ∀ j, w.heap.size ≤ j → S j)
    (c0 : w.cell? ⟨g0, 0, none⟩ = some (.pointer (some ⟨b, 0, none⟩))) (s0 : ¬ S g0) :
    Calls Tryz.prog 115 #[.pointer (some ⟨g0, 0, none⟩)] w fun e w' => e = .returned (.tuple #[]) ∧ Dv S w' b (flushF F O) [] P ∧ Upd S w w' := by
  obtain ⟨vf, vo, vp, h, hS⟩ := h
  obtain ⟨-, d1, -⟩ := h.c
  obtain ⟨ao, co, rfl⟩ := h.os.rd.nil_iff
  have hol := h.good.ol
  have H := Lib.hid (And.intro h (And.intro hS (And.intro hn (And.intro c0 s0))))
  clear h hS hn
  go_enter Tryz.func115, Tryz.ntmps115
  go_wp2
  go_loopw [8] (fun i wr => ∃ k : Nat, k ≤ O.length ∧ i = .int .i64 k ∧ DvAt wr b vf (.slice ao O.length co) vp (flushF F (O.take k)) O P ∧ Upd (fun j => vf.ownBlock = some j ∨ w.heap.size ≤ j) w wr)
    (fun i _ => O.length - (intOf i).toNat)
  case atStart => exact ⟨0, Nat.zero_le _, rfl, H.out.1, Upd.refl _ _⟩
  case round =>
    obtain ⟨k, hk, rfl, hd, hu⟩ := hrel
    by_cases hlt : k < O.length
    · obtain ⟨h, hS, hn, c0, s0⟩ := H.out
      obtain ⟨gO, oO, cO, e1, hgO, hcO, rO⟩ := hd.opRange hlt
      obtain ⟨rfl, rfl⟩ : ao = some ⟨gO, oO, none⟩ ∧ co = cO := by injection e1 with e1 _ e2; exact ⟨e1, e2⟩
      clear e1
      have hsx := hd.good.o64 O[k] (List.getElem_mem hlt)
      obtain ⟨s, x, hO⟩ : ∃ s x, O[k] = (s, x) := ⟨_, _, rfl⟩
      rw [hO] at hsx rO
      have HO := Lib.hid hO
      clear hO
      obtain ⟨hx, hs⟩ := hsx
      obtain ⟨gF, oF, cF, e1, hgF, hcF, rF, tF⟩ := hd.fiRange hs
      have hO1 : 0 ≤ (k : Int) ∧ (k : Int) < O.length := ⟨by omega, by omega⟩
      have hwr : w.heap.size ≤ wr.heap.size := hu.size
      go_wp2_with (first
        | refine wpList_load_mid rfl _ _ rfl _ _ rfl _ _ rO Tryz.underlying131 rfl (sizeWr _ _ hx) ?_
        | (refine wpList_store_new rfl _ _ _ rfl _ _ _ rfl rfl (by rw [zero_wr, wrC_len, hx]) (sizeWr _ _ hx) (wrC_one _ _) ?_)
        | fail)
      rw [flushF_len] at hs e1 hcF
      subst e1
      have hu1 : Upd (fun _ => False) wr (wr.alloc (.cells (wrC (s : Int) x).toArray 131)) := (Upd.refl _ _).alloc _
      have hd1 := hd.new hu1
      have hU1 := hu.trans (hu1.mono (fun _ _ h => h.elim))
      have q2 : (wr.alloc (.cells (wrC (s : Int) x).toArray 131)).rangeAt wr.heap.size 0 (wrC (s : Int) x) := fun j v hv => by
        rw [cell_of_block (heap_alloc_last wr _ rfl)]; simpa using hv
      have q1 := q2 0 _ rfl
      have q3 : (wr.alloc (.cells (wrC (s : Int) x).toArray 131)).rangeAt wr.heap.size 1 (bkC x) := fun j v hv => by
        have := q2 (1 + j) v (by rw [Nat.add_comm]; exact hv)
        rw [Nat.zero_add] at this; exact this
      have q4 := World.there_alloc tF (.cells (wrC (s : Int) x).toArray 131)
      have hne0 : ¬ g0 = gF := fun e => s0 (hS g0 (.inr (.inl (by simp [Value.ownBlock, e]))))
      have q0 := hU1.cellv c0 (by rintro (e | e); exact hne0 (by simpa [Value.ownBlock] using e.symm); have := World.block_lt_of_cell? w _ c0; simp at this; omega)
      obtain ⟨q5, -, -⟩ := hd1.c
      have hneb : ¬ b = gF := fun e => hd.fb (by simp [Value.ownBlock, e])
      have hut := Tryz.underlying54
      have hsi := sizeBk x hx
      have hlx : (bkC x).length = 64 := by rw [bkC_len, hx]
      have h1x := bkC_one x
      have hsb : 0 ≤ (s : Int) ∧ (s : Int) < F.length := ⟨by omega, by omega⟩
      have hnm : ¬ wr.heap.size = gF := by omega
      rw [Nat.zero_add] at q1
      obtain ⟨hsb1, hsb2⟩ := hsb
      generalize wr.alloc (.cells (wrC (s : Int) x).toArray 131) = W1 at *
      have HH := Lib.hid (And.intro hd1 (And.intro hU1 (And.intro hd (And.intro hu hwr))))
      clear hd1 hU1 hd hu hwr hu1 q2 hS hn h tF rF rO c0 s0 hgO hgF
      generalize wr.heap.size = m at *
      go_region_held3 (fun W => W.cell? ⟨g0, 0, none⟩ = some (.pointer (some ⟨b, 0, none⟩)) ∧ W.cell? ⟨b, 0, none⟩ = some (.slice (some ⟨gF, oF, none⟩) F.length cF) ∧ W.cell? ⟨m, 0, none⟩ = some (.int .i64 (s : Int)) ∧ W.rangeAt m 1 (bkC x) ∧ W.there gF (oF + s * 64) 64)
        ((go_split_ands; (simp only [World.rangeAt_drew, World.there_drew, World.cell?_drew] at *); ((repeat' constructor) <;> first | assumption | (apply World.there_setCells; assumption) | (refine cell_keep_setCells ?_ ?_ <;> assumption) | (refine World.rangeAt_setCells_apart (by assumption) _ _ _ (by omega)))))
        (fail)
      have hset : DvAt (W1.drew.setCells gF (oF + s * 64) (bkC x)) b (.slice (some ⟨gF, oF, none⟩) F.length cF) (.slice (some ⟨gO, oO, none⟩) O.length co) vp (flushF F (O.take (k + 1))) O P := by
        obtain ⟨hd1, hU1, hd, hu, hwr⟩ := HH.out
        have h2 := hd1.new ((Upd.refl (fun _ => False) _).drew)
        rw [← flushF_len F (O.take k)] at h2
        have := h2.setFirm (s := s) (x := x) (by rw [flushF_len]; exact hs) hx
        rw [flushF_len] at this
        rw [flushF_take hlt, HO.out]; exact this
      have hUs : Upd (fun j => (Value.slice (some ⟨gF, oF, none⟩) F.length cF).ownBlock = some j ∨ w.heap.size ≤ j) w (W1.drew.setCells gF (oF + s * 64) (bkC x)) :=
        HH.out.2.1.drew.trans ((upd_row W1.drew gF (oF + s * 64) (bkC x)).mono (fun j _ e => .inl (by simp [Value.ownBlock, e])))
      have HS := Lib.hid (And.intro hset hUs)
      clear hset hUs
      go_wp2
      go_roundw
      case rel => exact ⟨k + 1, by omega, by go_num, HS.out.1, HS.out.2⟩
      case measure => simp [intOf]; omega
    · obtain rfl : k = O.length := by omega
      rw [List.take_length] at hd
      obtain ⟨h, hS, hn, c0, s0⟩ := H.out
      have hUS : Upd S w wr := hu.mono (fun j _ e => e.elim (fun e => hS j (.inr (.inl e))) (hn j))
      have q0 := hUS.cellv c0 s0
      have q1 := hd.fz 1
      obtain ⟨-, q2, -⟩ := hd.c
      have HH := Lib.hid (And.intro hd (And.intro hUS (And.intro hS hn)))
      clear hd hUS hu h hS hn c0 s0
      go_wp2
      go_end0
      obtain ⟨hd, hUS, hS, hn⟩ := HH.out
      refine ⟨rfl, ⟨vf, _, vp, hd.openNil, ?_⟩, hUS.trans (Upd.mono (upd_setCell _ _ _ _) (fun k _ hk => hk ▸ hS _ (.inl rfl)))⟩
      rintro j (rfl | h | h | h)
      · exact hS _ (.inl rfl)
      · exact hS _ (.inr (.inl h))
      · cases h
      · exact hS _ (.inr (.inr (.inr h)))
def FlushPost (S : Nat → Prop) (w : World) (b : Nat) (F : List Bk) (O : List (Nat × Bk)) (P : List Int) (e : Ending) (w' : World) : Prop :=
  (fate P = 1 ∧ e = .returned (.int .i64 21) ∧ Dv S w' b F O P.tail ∧ Upd S w w') ∨
  (fate P = 0 ∧ e = .returned (.int .i64 0) ∧ Dv S w' b (flushF F O) [] P.tail ∧ Upd S w w') ∨
  (fate P ≠ 0 ∧ fate P ≠ 1 ∧ e = .returned (.int .i64 0) ∧ Dv S w' b F O P.tail ∧ Upd S w w')
set_option maxRecDepth 100000 in
set_option maxHeartbeats 1000000 in
theorem dflush {S : Nat → Prop} {w : World} {b : Nat} {F : List Bk} {O : List (Nat × Bk)} {P : List Int} (h : Dv S w b F O P) (hn : ∀ j, w.heap.size ≤ j → S j) :
    Calls Tryz.prog 46 #[.pointer (some ⟨b, 0, none⟩)] w (FlushPost S w b F O P) := by
  have hmf : ∀ (fn : Fn) (first cap : Array Value) (w : World), (Instr.makeFunc fn first cap).run Tryz.prog w = .ok (.func fn first cap) w := fun _ _ _ _ => rfl
  have H := Lib.hid (And.intro h hn)
  clear h hn
  go_enter Tryz.func46, Tryz.ntmps46
  go_wp2_with fail
  have hu : Upd (fun _ => False) w (w.alloc (.cells #[.pointer (some ⟨b, 0, none⟩)] 46)) := (Upd.refl _ w).alloc _
  have c0 : (w.alloc (.cells #[.pointer (some ⟨b, 0, none⟩)] 46)).cell? ⟨w.heap.size, 0, none⟩ = some (.pointer (some ⟨b, 0, none⟩)) := cell_of_block (heap_alloc_last w _ rfl) 0
  have hsz : (w.alloc (.cells #[.pointer (some ⟨b, 0, none⟩)] 46)).heap.size = w.heap.size + 1 := by simp
  generalize (w.alloc (.cells #[.pointer (some ⟨b, 0, none⟩)] 46)) = w3 at hu c0 hsz ⊢
  obtain ⟨hd0, hn⟩ := H.out
  have hbS := hd0.sb
  have hS' : ∀ j, ((S j ∧ j < w.heap.size) ∨ w.heap.size + 1 ≤ j) → S j := by
    rintro j (⟨h, -⟩ | h)
    · exact h
    · exact hn j (by omega)
  have hd4 : Dv (fun j => (S j ∧ j < w.heap.size) ∨ w.heap.size + 1 ≤ j) w3 b F O P := (hd0.shrink (fun j hj hl => .inl ⟨hj, hl⟩)).keep hu (fun _ _ h => h)
  have HO := Lib.hid (And.intro hS' (And.intro hu hbS))
  refine (dcall hd4 21 115 _ (fun W => Dv (fun j => (S j ∧ j < w.heap.size) ∨ w.heap.size + 1 ≤ j) W b (flushF F O) [] P.tail ∧ Upd (fun j => (S j ∧ j < w.heap.size) ∨ w.heap.size + 1 ≤ j) w3 W) (fun _ _ => rfl) ?_).mono ?_
  · intro h0 w1 hd1 hu1
    refine (dflush1 hd1 (fun j hj => .inr (by have := hu1.size; omega)) (hu1.cellv c0 (by omega)) (by omega)).mono ?_
    rintro e w' ⟨rfl, hD, hU⟩
    exact ⟨rfl, hD, (hu1.mono (fun j _ hj => hj ▸ .inl ⟨hbS.1, hbS.2⟩)).trans hU⟩
  · clear hd4 hd0 hn hu hsz hS' c0 hbS
    rintro e w5 (⟨h1, rfl, hD, hU⟩ | ⟨h1, rfl, hD, hU⟩ | ⟨h1, h2, rfl, hD, hU⟩)
    · have D := Lib.hid (And.intro h1 (And.intro hD hU))
      clear h1 hD hU
      go_wp2
      go_ret
      exact .inl ⟨D.out.1, rfl, D.out.2.1.wide HO.out.1, (HO.out.2.1.mono (fun _ _ h => h.elim)).trans (D.out.2.2.mono (fun j _ hj => hj ▸ HO.out.2.2.1))⟩
    · have D := Lib.hid (And.intro h1 (And.intro hD hU))
      clear h1 hD hU
      go_wp2
      go_ret
      exact .inr (.inl ⟨D.out.1, rfl, D.out.2.1.wide HO.out.1, (HO.out.2.1.mono (fun _ _ h => h.elim)).trans (D.out.2.2.mono (fun j _ hj => HO.out.1 j hj))⟩)
    · have D := Lib.hid (And.intro h1 (And.intro h2 (And.intro hD hU)))
      clear h1 h2 hD hU
      go_wp2
      go_ret
      exact .inr (.inr ⟨D.out.1, D.out.2.1, rfl, D.out.2.2.1.wide HO.out.1, (HO.out.2.1.mono (fun _ _ h => h.elim)).trans (D.out.2.2.2.mono (fun j _ hj => hj ▸ HO.out.2.2.1))⟩)
end Go.Proofs.YtfhfbpmlnjdfoaaGreatDoor
