/- lavabolaw19.plain: entries and records as the document's answer has them. lavaboref19.Apply: the document's answer. Entries behind records: the plain law. -/
import Derived.Test.YtfhfbpmlnjdfoaaGreatDoorA10
import Derived.Test.YtfhfbpmlnjdfoaaGreatDoorA03
import Derived.Deep.DeepAppendWide
import Derived.Test.YtfhfbpmlnjdfoaaGreatDoorA11
namespace Go.Proofs.YtfhfbpmlnjdfoaaGreatDoor
open Go Go.RowKit Go.Shelf Go.Lib
theorem own_keep {S : Nat → Prop} {w w' : World} {base k n : Nat} {e : TypeId} {v : Value} {xs : List Value} (h : w.ownsRow base e k v n xs) (hu : Upd S w w') (hs : ∀ g, v.ownBlock = some g → ¬ S g) : w'.ownsRow base e k v n xs := by
  refine ⟨h.1, ?_⟩
  rcases h.2 with h | ⟨g, cap, cur, rfl, hb, hg, h⟩
  · exact .inl h
  · exact .inr ⟨g, cap, cur, rfl, hb, (hu.block g (lt_of_block hg) (hs g rfl)).trans hg, h⟩
theorem own_ge {w : World} {base k n : Nat} {e : TypeId} {v : Value} {xs : List Value} (h : w.ownsRow base e k v n xs) {g : Nat} (hg : v.ownBlock = some g) : base ≤ g ∧ g < w.heap.size := by
  rcases h.2 with ⟨rfl, -⟩ | ⟨g', cap, cur, rfl, hb, hg', -⟩
  · cases hg
  · cases hg; exact ⟨hb, lt_of_block hg'⟩
structure Ch where
  o : Int
  b : Int
  s : Int
  x : Int
  d : Bool
def Ch.cs (c : Ch) : List Value := [.int .i64 c.o, .int .i64 c.b, .int .i64 c.s, .int .i64 c.x, .bool c.d]
theorem Ch.one (c : Ch) : ∀ v ∈ c.cs, v.oneCell' = true := by
  intro v hv
  simp only [Ch.cs, List.mem_cons, List.not_mem_nil, or_false] at hv
  rcases hv with rfl | rfl | rfl | rfl | rfl <;> rfl
def EI.ch (e : EI) : Ch := ⟨0, e.b, e.s, e.x, e.d⟩
def recCh (r : List Int) : Ch := ⟨r.getD 2 0, r.getD 3 0, r.getD 4 0, r.getD 6 0, r.getD 5 0 == 1⟩
def okE (e : EI) : Bool := !(decide (e.b < 0) || decide (19 < e.b) || decide (e.s < 0))
def okRe (r : List Int) : Bool := !(decide (r.getD 3 0 < 0) || decide (19 < r.getD 3 0) || decide (r.getD 4 0 < 0) || decide (r.getD 2 0 < 0) || decide (1 < r.getD 2 0))
def PlOut (w : World) (l : List EI) (rs : List (List Int)) (e : Ending) (w' : World) : Prop :=
  Below w.heap.size w w' ∧ ((l.all okE && rs.all okRe) = false ∧ e = .returned (.tuple #[.slice none 0 0, .slice none 0 0, .bool false]) ∨
    (l.all okE && rs.all okRe) = true ∧ ∃ v u, e = .returned (.tuple #[v, u, .bool true]) ∧ Rd w' 5 v l.length ((l.map EI.ch).flatMap Ch.cs) ∧ Rd w' 5 u rs.length ((rs.map recCh).flatMap Ch.cs))
theorem infoCh : (Tryz.prog.info? 113).map (fun i => (i.zero.map (·.cells.size), i.size, i.bytes)) = some (some 5, 5, 40) := by kernel_rfl
theorem infoCh_parts : ∃ i z, Tryz.prog.info? 113 = some i ∧ i.zero = some z ∧ z.cells.size = 5 ∧ i.size = 5 ∧ i.bytes = 40 := by
  obtain ⟨i, hi, hb⟩ := Option.map_eq_some_iff.1 infoCh
  simp only [Prod.mk.injEq] at hb
  obtain ⟨h1, h2, h3⟩ := hb
  obtain ⟨z, hz, hzs⟩ := Option.map_eq_some_iff.1 h1
  exact ⟨i, z, hi, hz, hzs, h2, h3⟩
theorem all_take {α : Type} (p : α → Bool) (l : List α) {k : Nat} (hk : k < l.length) : (l.take (k + 1)).all p = ((l.take k).all p && p l[k]) := by
  rw [List.take_succ_eq_append_getElem hk, List.all_append]; congr 1; try simp
theorem all_false {α : Type} (p : α → Bool) (l : List α) {k : Nat} (hk : k < l.length) (h : p l[k] = false) : l.all p = false := by
  rw [List.all_eq_false]; exact ⟨_, List.getElem_mem hk, by rw [h]; simp⟩
theorem flat_take {α : Type} (f : α → Ch) (l : List α) {k : Nat} (hk : k < l.length) : ((l.take (k + 1)).map f).flatMap Ch.cs = ((l.take k).map f).flatMap Ch.cs ++ (f l[k]).cs := by
  rw [List.take_succ_eq_append_getElem hk, List.map_append, List.flatMap_append]; congr 1; try simp
theorem wpList_app {ops : Array Oper} {rest : List Oper} {op : Oper} {a : Act} {w : World} {Q : Exit → Act → World → Prop} (hgd : op.guard = none) (s x : Operand) (t : TypeId) (hop : op.op = Op.call { callee := Callee.builtin Builtin.append, args := #[s, x], argTypes := #[t, t] }) (v x' : Value) (hs : a.eval s = v) (hx : a.eval x = x') (v' : Value) (w' : World)
    (hrun : (Builtin.append_ #[t, t] op.type #[v, x']).run Tryz.prog w = .ok v' w') (h : wpList Tryz.prog ops Q rest (a.put op.dst v') w') : wpList Tryz.prog ops Q (op :: rest) a w := by
  refine wpList_plain hgd fun K hK' => ?_
  unfold Oper.wp
  simp [execOp, hop, resolve, invoke, builtin, hs, hx, hrun, Result.andThen]
  exact hK' _ _ h
theorem app_ch {w : World} {base n : Nat} {v : Value} {xs : List Value} (ty : TypeId) (h : w.ownsRow base 113 5 v n xs) (c : Ch) (hb : base ≤ w.heap.size) (hn : n ≤ 4398046511104) :
    ∃ v' w', (Builtin.append_ #[24, 24] ty #[v, .slice (some ⟨w.heap.size, 0, none⟩) 1 1]).run Tryz.prog (w.alloc (.cells c.cs.toArray 113)) = .ok v' w' ∧ w'.ownsRow base 113 5 v' (n + 1) (xs ++ c.cs) ∧ Upd (ownS v) w w' := by
  obtain ⟨i, z, hi, hz, hzs, hsz, hby⟩ := infoCh_parts
  have hu : Upd (fun _ => False) w (w.alloc (.cells c.cs.toArray 113)) := (Upd.refl _ w).alloc _
  have h2 := own_keep h hu (fun _ _ h => h)
  have hg : (w.alloc (.cells c.cs.toArray 113)).heap[w.heap.size]? = some (.cells c.cs.toArray 113 (0, 0)) := heap_alloc_last w _ rfl
  obtain ⟨v', w', hr, ho, hgr, -⟩ := run_append_own_wide (P := Tryz.prog) _ base 24 ty 113 i z 5 40 Tryz.underlying24 hi hz hsz hby hzs (by decide) v n xs h2
    ⟨w.heap.size, 0, none⟩ 1 1 c.cs rfl (fun j u hj => by rw [Addr.add_lit, cell_of_block hg, Nat.zero_add]; simpa using hj) c.one (by unfold maxLen; omega) (by omega) (by simp; omega)
  exact ⟨v', w', hr, ho, (hu.mono (fun _ _ h => h.elim)).trans (Upd.of_grown hgr (fun g hg _ => hg))⟩
set_option maxRecDepth 100000 in
set_option maxHeartbeats 4000000 in
theorem plain19 {w : World} {v0 v1 : Value} {l : List EI} {rs : List (List Int)} (hs : Rd w 4 v0 l.length (l.flatMap EI.cs)) (hr : Rd w 7 v1 rs.length (rs.flatMap dsR)) (hl1 : l.length ≤ 4398046511104) (hr1 : rs.length ≤ 4398046511104) :
    Calls Tryz.prog 10 #[v0, v1] w (PlOut w l rs) := by
  obtain ⟨ao, cap, rfl⟩ := hs.nil_iff
  obtain ⟨bo, cbp, rfl⟩ := hr.nil_iff
  have H := Lib.hid (And.intro hs (And.intro hr (And.intro hl1 hr1)))
  clear hs hr hl1 hr1
  go_enter Tryz.func10, Tryz.ntmps10
  go_wp2_with fail
  go_loopg [7, 9] l.length (fun gk s7 s9 wr => ∃ k : Nat, k + gk = l.length ∧ s9 = .int .i64 (k : Int) ∧ wr.ownsRow w.heap.size 113 5 s7 k (((l.take k).map EI.ch).flatMap Ch.cs) ∧ (l.take k).all okE = true ∧ Below w.heap.size w wr)
  case atStart => exact ⟨0, by omega, rfl, World.ownsRow_nil _ _ _ _, by simp, Below.refl _ _⟩
  case round =>
    obtain ⟨k, hk, rfl, ho, hall, hb⟩ := hrel
    by_cases hlt : k < l.length
    · have k1 : (k : Int) < (l.length : Int) := by omega
      have k0 : (0 : Int) ≤ (k : Int) := by omega
      have kb : (k : Int) < 4398046511104 := by have := H.out.2.2.1; omega
      obtain ⟨g, o, cp, e, hgl, hcell⟩ := H.out.1.at (by omega)
      cases e
      have HGL := Lib.hid hgl
      have hx := flat_row (enc := EI.cs) (m := 4) (fun _ => rfl) hcell hlt
      have hat := all_take okE l hlt
      have haf := @all_false _ okE l k hlt
      have hfl := flat_take EI.ch l hlt
      obtain ⟨x, hxx⟩ : ∃ x, x = l[k] := ⟨_, rfl⟩
      rw [← hxx] at hx hat haf hfl
      have hrow : wr.rangeAt g (o + k * 4) x.cs := Below.range hb hx
      have e0 : wr.cell? ⟨g, o + k * 4, none⟩ = some (.int .i64 x.b) := hrow 0 _ rfl
      have e1 : wr.cell? ⟨g, o + k * 4 + 1, none⟩ = some (.int .i64 x.s) := hrow 1 _ rfl
      have e2 : wr.cell? ⟨g, o + k * 4 + 2, none⟩ = some (.bool x.d) := hrow 2 _ rfl
      have e3 : wr.cell? ⟨g, o + k * 4 + 3, none⟩ = some (.int .i64 x.x) := hrow 3 _ rfl
      have HX := Lib.hid (And.intro ho (And.intro hall (And.intro hb (And.intro hat (And.intro haf hfl)))))
      clear hxx hx hcell hrow ho hall hb hat haf hfl hgl
      obtain ⟨ok, hok⟩ : ∃ ok, ok = okE x := ⟨_, rfl⟩
      cases ok with
      | false =>
        have hbad : x.b < 0 ∨ 19 < x.b ∨ x.s < 0 := by
          unfold okE at hok
          simp only [Bool.false_eq, Bool.not_eq_false', Bool.or_eq_true, decide_eq_true_eq] at hok
          omega
        have hok' := Lib.hid hok.symm
        clear hok
        have fin : ∀ wr2, wr2 = wr → PlOut w l rs (.returned (.tuple #[.slice none 0 0, .slice none 0 0, .bool false])) wr2 := fun wr2 e => by
          rw [e]; exact ⟨HX.out.2.2.1, .inl ⟨by rw [HX.out.2.2.2.2.1 hok'.out]; rfl, rfl⟩⟩
        have HF := Lib.hid fin
        clear fin
        by_cases h1 : x.b < 0
        · have z1 : decide (x.b < 0) = true := by simpa using h1
          clear hbad
          go_wp2_with fail
          refine bodyPost_ret (v := .tuple #[.slice none 0 0, .slice none 0 0, .bool false]) (by simp [results, Tryz.results10, go_sem]) rfl ?_
          exact HF.out _ rfl
        by_cases h2 : 19 < x.b
        · have z1 : decide (x.b < 0) = false := by simpa using h1
          have z2 : decide (19 < x.b) = true := by simpa using h2
          clear hbad
          go_wp2_with fail
          refine bodyPost_ret (v := .tuple #[.slice none 0 0, .slice none 0 0, .bool false]) (by simp [results, Tryz.results10, go_sem]) rfl ?_
          exact HF.out _ rfl
        · have h3 : x.s < 0 := by omega
          have z1 : decide (x.b < 0) = false := by simpa using h1
          have z2 : decide (19 < x.b) = false := by simpa using h2
          have z3 : decide (x.s < 0) = true := by simpa using h3
          clear hbad
          go_wp2_with fail
          refine bodyPost_ret (v := .tuple #[.slice none 0 0, .slice none 0 0, .bool false]) (by simp [results, Tryz.results10, go_sem]) rfl ?_
          exact HF.out _ rfl
      | true =>
        have hgood : ¬ x.b < 0 ∧ ¬ 19 < x.b ∧ ¬ x.s < 0 := by
          unfold okE at hok
          simp only [Bool.true_eq, Bool.not_eq_true', Bool.or_eq_false_iff, decide_eq_false_iff_not] at hok
          omega
        have hok' := Lib.hid hok.symm
        obtain ⟨h1, h2, h3⟩ := hgood
        have z1 : decide (x.b < 0) = false := by simpa using h1
        have z2 : decide (19 < x.b) = false := by simpa using h2
        have z3 : decide (x.s < 0) = false := by simpa using h3
        clear hok
        go_wp2_with fail
        clear z1 z2 z3
        have ho2 := own_keep HX.out.1 ((Upd.refl (fun _ => False) wr).drew) (fun _ _ h => h)
        obtain ⟨v', w', hrun, ho3, hu3⟩ := app_ch (w := wr.drew) 24 ho2 x.ch (by have := HX.out.2.2.1.size; simpa using this) (by have := H.out.2.2.1; omega)
        have HR := Lib.hid (And.intro hrun (And.intro ho3 hu3))
        clear ho2 hrun ho3 hu3
        refine wp_region_held_drew (S := fun W => W.cell? ⟨g, o + k * 4, none⟩ = some (.int .i64 x.b) ∧ W.cell? ⟨g, o + k * 4 + 1, none⟩ = some (.int .i64 x.s) ∧ W.cell? ⟨g, o + k * 4 + 2, none⟩ = some (.bool x.d) ∧ W.cell? ⟨g, o + k * 4 + 3, none⟩ = some (.int .i64 x.x)) (by kernel_rfl) (⟨by rw [World.cell?_drew]; exact e0, by rw [World.cell?_drew]; exact e1, by rw [World.cell?_drew]; exact e2, by rw [World.cell?_drew]; exact e3⟩) (fun hHeld => ?_)
        refine Wl.i [0, 1, 2, 3, 4, 5, 6, 7, 8, 9, 10, 11, 12, 13, 14, 15, 16, 17, 18, 19, 20, 21, 22] ?_; iterate 23 refine Wl.t hHeld ?_
        refine Wl.o ?_
        refine Wl.r 23 (fun K hK => ?_)
        go_simp
        show K _ (wr.drew.alloc (.cells x.ch.cs.toArray 113))
        have hua : Upd (fun _ => False) wr.drew (wr.drew.alloc (.cells x.ch.cs.toArray 113)) := (Upd.refl _ _).alloc _
        refine hK.out _ _ (⟨hua.cellv hHeld.1 (fun h => h), hua.cellv hHeld.2.1 (fun h => h), hua.cellv hHeld.2.2.1 (fun h => h), hua.cellv hHeld.2.2.2 (fun h => h)⟩) (fun hHeld2 => ?_)
        clear hK K hua
        refine Wl.r 24 (fun K hK => ?_)
        refine step_append_run rfl _ _ _ rfl rfl rfl HR.out.1 ?_
        have hgo : ¬ ownS u7 g := fun h => by have h1 := own_ge HX.out.1 h; have h2 := HGL.out; omega
        have hu3 := HR.out.2.2
        refine hK.out _ _ (⟨hu3.cellv hHeld.1 hgo, hu3.cellv hHeld.2.1 hgo, hu3.cellv hHeld.2.2.1 hgo, hu3.cellv hHeld.2.2.2 hgo⟩) (fun hHeld3 => ?_)
        clear hK K hHeld hHeld2 hgo hu3
        refine Wl.r 25 (fun K hK => ?_)
        go_simp
        refine hK.out _ _ (hHeld3) (fun _ => ?_)
        clear hK K hHeld3 e0 e1 e2 e3 h1 h2 h3
        refine Wl.d ?_
        go_wp2
        go_roundg (gk - 1)
        case measure => omega
        case rel =>
          obtain ⟨ho, hall, hb, hat, haf, hfl⟩ := HX.out
          refine ⟨k + 1, by omega, by go_num, by rw [hfl]; exact HR.out.2.1, by rw [hat, hall, hok'.out]; rfl, ?_⟩
          exact below_upd hb (((Upd.refl (ownS u7) wr).drew).trans HR.out.2.2) (Nat.le_refl _) (fun j hj => (own_ge ho hj).1)
    · obtain rfl : k = l.length := by omega
      rw [List.take_length] at ho hall
      have k1 : ¬ ((l.length : Int) < (l.length : Int)) := by omega
      have HL := Lib.hid (And.intro ho (And.intro hall hb))
      clear ho hall hb
      obtain ⟨wl, hwl⟩ : ∃ wl : World, wl = wr := ⟨_, rfl⟩
      obtain ⟨vl, hvl⟩ : ∃ vl : Value, vl = u7 := ⟨_, rfl⟩
      rw [← hwl, ← hvl] at HL ⊢
      clear hwl hvl
      go_wp2_with fail
      go_loopg [8, 10] rs.length (fun gk s8 s10 wr => ∃ k : Nat, k + gk = rs.length ∧ s10 = .int .i64 (k : Int) ∧ wr.ownsRow wl.heap.size 113 5 s8 k (((rs.take k).map recCh).flatMap Ch.cs) ∧ (rs.take k).all okRe = true ∧ Below wl.heap.size wl wr)
      case atStart => exact ⟨0, by omega, rfl, World.ownsRow_nil _ _ _ _, by simp, Below.refl _ _⟩
      case round =>
        obtain ⟨k, hk, rfl, ho, hall, hb⟩ := hrel
        by_cases hlt : k < rs.length
        · have k1 : (k : Int) < (rs.length : Int) := by omega
          have k0 : (0 : Int) ≤ (k : Int) := by omega
          have kb : (k : Int) < 4398046511104 := by have := H.out.2.2.2; omega
          obtain ⟨g, o, cp, e, hgl, hcell⟩ := H.out.2.1.at (by omega)
          cases e
          have hx := flat_row (enc := dsR) (m := 7) (fun _ => rfl) hcell hlt
          have hat := all_take okRe rs hlt
          have haf := @all_false _ okRe rs k hlt
          have hfl := flat_take recCh rs hlt
          obtain ⟨x, hxx⟩ : ∃ x, x = rs[k] := ⟨_, rfl⟩
          rw [← hxx] at hx hat haf hfl
          have hrow : wr.rangeAt g (o + k * 7) (dsR x) := Below.range (Below.trans HL.out.2.2 (hb.mono HL.out.2.2.size)) hx
          obtain ⟨cs, hcs⟩ : ∃ cs, cs = dsR x := ⟨_, rfl⟩
          rw [← hcs] at hrow
          obtain ⟨w2, hw2⟩ : ∃ w2, w2 = wr.alloc (.cells cs.toArray 101) := ⟨_, rfl⟩
          have hu2 : Upd (fun _ => False) wr w2 := by rw [hw2]; exact (Upd.refl _ wr).alloc _
          have g2 : w2.heap[wr.heap.size]? = some (.cells (dsR x).toArray 101 (0, 0)) := by rw [hw2, hcs]; exact heap_alloc_last wr _ rfl
          obtain ⟨q, hq⟩ : ∃ q, q = wr.heap.size := ⟨_, rfl⟩
          rw [← hq] at g2
          have e2 : w2.cell? ⟨q, 2, none⟩ = some (.int .i64 (x.getD 2 0)) := cell_of_block g2 2
          have e3 : w2.cell? ⟨q, 3, none⟩ = some (.int .i64 (x.getD 3 0)) := cell_of_block g2 3
          have e4 : w2.cell? ⟨q, 4, none⟩ = some (.int .i64 (x.getD 4 0)) := cell_of_block g2 4
          have e5 : w2.cell? ⟨q, 5, none⟩ = some (.bool (x.getD 5 0 == 1)) := cell_of_block g2 5
          have e6 : w2.cell? ⟨q, 6, none⟩ = some (.int .i64 (x.getD 6 0)) := cell_of_block g2 6
          have ho2 := own_keep ho hu2 (fun _ _ h => h)
          obtain ⟨v', w', hrun, ho3, hu3⟩ := app_ch (w := w2) 24 ho2 (recCh x) (by have := hb.size; have := hu2.size; omega) (by have := H.out.2.2.2; omega)
          have hb2 : Below wl.heap.size wl w2 := hb.trans ((Upd.below hu2).mono hb.size)
          have hcl : cs.length = 7 := by rw [hcs]; rfl
          have hc1 : ∀ v ∈ cs, v.oneCell' = true := by rw [hcs]; exact dsR_one x
          have hci : (Tryz.prog.info? 101).map (·.size) = some cs.length := by rw [hcl]; exact infoThR
          have HX := Lib.hid (And.intro ho (And.intro hall (And.intro hb (And.intro hat (And.intro haf (And.intro hfl (And.intro ho2 hb2)))))))
          have HY := Lib.hid (And.intro hcl (And.intro hci hc1))
          have HR := Lib.hid (And.intro hrun (And.intro ho3 hu3))
          have HW2 := Lib.hid (And.intro hw2 hq)
          obtain ⟨ok, hok⟩ : ∃ ok, ok = okRe x := ⟨_, rfl⟩
          unfold okRe at hok
          obtain ⟨x2, hx2⟩ : ∃ y, y = x.getD 2 0 := ⟨_, rfl⟩
          obtain ⟨x3, hx3⟩ : ∃ y, y = x.getD 3 0 := ⟨_, rfl⟩
          obtain ⟨x4, hx4⟩ : ∃ y, y = x.getD 4 0 := ⟨_, rfl⟩
          obtain ⟨x5, hx5⟩ : ∃ y, y = (x.getD 5 0 == 1) := ⟨_, rfl⟩
          obtain ⟨x6, hx6⟩ : ∃ y, y = x.getD 6 0 := ⟨_, rfl⟩
          rw [← hx2] at e2
          rw [← hx3] at e3
          rw [← hx4] at e4
          rw [← hx5] at e5
          rw [← hx6] at e6
          rw [← hx2, ← hx3, ← hx4] at hok
          have HC : Hid ((recCh x).cs = [.int .i64 x2, .int .i64 x3, .int .i64 x4, .int .i64 x6, .bool x5]) := by show _ = _; rw [hx2, hx3, hx4, hx5, hx6]; rfl
          have HOK : Hid (ok = okRe x) := by show _ = _; rw [hok, hx2, hx3, hx4]; rfl
          clear hxx hx hcell ho hall hb hat haf hfl hgl hcs hw2 hu2 g2 hq ho2 hrun ho3 hu3 hb2 hcl hc1 hci hx2 hx3 hx4 hx5 hx6
          go_wp2_with (first
            | (refine wpList_load_mid rfl 101 _ rfl _ _ rfl _ _ hrow Tryz.underlying101 rfl HY.out.2.1 ?_)
            | (refine wpList_store_new rfl _ _ _ rfl _ _ cs rfl rfl (by rw [HY.out.1]; rfl) HY.out.2.1 HY.out.2.2 ?_; refine Stop.i ?_)
            | fail)
          rw [← HW2.out.1, ← HW2.out.2]
          unfold Stop
          clear hrow
          cases ok with
          | false =>
            have HF : Hid (PlOut w l rs (.returned (.tuple #[.slice none 0 0, .slice none 0 0, .bool false])) w2) :=
              ⟨HL.out.2.2.trans (HX.out.2.2.2.2.2.2.2.mono HL.out.2.2.size), .inl ⟨by rw [HX.out.2.2.2.2.1 HOK.out.symm, Bool.and_false], rfl⟩⟩
            have hbad : x3 < 0 ∨ 19 < x3 ∨ x4 < 0 ∨ x2 < 0 ∨ 1 < x2 := by
              simp only [Bool.false_eq, Bool.not_eq_false', Bool.or_eq_true, decide_eq_true_eq] at hok
              omega
            clear hok
            by_cases h1 : x3 < 0
            · have z1 : decide (x3 < 0) = true := by simpa using h1
              clear hbad
              go_wp2_with fail
              refine bodyPost_ret (v := .tuple #[.slice none 0 0, .slice none 0 0, .bool false]) (by simp [results, Tryz.results10, go_sem]) rfl HF.out
            have z1 : decide (x3 < 0) = false := by simpa using h1
            by_cases h2 : 19 < x3
            · have z2 : decide (19 < x3) = true := by simpa using h2
              clear hbad
              go_wp2_with fail
              refine bodyPost_ret (v := .tuple #[.slice none 0 0, .slice none 0 0, .bool false]) (by simp [results, Tryz.results10, go_sem]) rfl HF.out
            have z2 : decide (19 < x3) = false := by simpa using h2
            by_cases h3 : x4 < 0
            · have z3 : decide (x4 < 0) = true := by simpa using h3
              clear hbad
              go_wp2_with fail
              refine bodyPost_ret (v := .tuple #[.slice none 0 0, .slice none 0 0, .bool false]) (by simp [results, Tryz.results10, go_sem]) rfl HF.out
            have z3 : decide (x4 < 0) = false := by simpa using h3
            by_cases h4 : x2 < 0
            · have z4 : decide (x2 < 0) = true := by simpa using h4
              clear hbad
              go_wp2_with fail
              refine bodyPost_ret (v := .tuple #[.slice none 0 0, .slice none 0 0, .bool false]) (by simp [results, Tryz.results10, go_sem]) rfl HF.out
            have z4 : decide (x2 < 0) = false := by simpa using h4
            have h5 : 1 < x2 := by omega
            have z5 : decide (1 < x2) = true := by simpa using h5
            clear hbad
            go_wp2_with fail
            refine bodyPost_ret (v := .tuple #[.slice none 0 0, .slice none 0 0, .bool false]) (by simp [results, Tryz.results10, go_sem]) rfl HF.out
          | true =>
            have hgood : ¬ x3 < 0 ∧ ¬ 19 < x3 ∧ ¬ x4 < 0 ∧ ¬ x2 < 0 ∧ ¬ 1 < x2 := by
              simp only [Bool.true_eq, Bool.not_eq_true', Bool.or_eq_false_iff, decide_eq_false_iff_not] at hok
              omega
            clear hok
            obtain ⟨h1, h2, h3, h4, h5⟩ := hgood
            have z1 : decide (x3 < 0) = false := by simpa using h1
            have z2 : decide (19 < x3) = false := by simpa using h2
            have z3 : decide (x4 < 0) = false := by simpa using h3
            have z4 : decide (x2 < 0) = false := by simpa using h4
            have z5 : decide (1 < x2) = false := by simpa using h5
            have hrun := HR.out.1
            rw [HC.out] at hrun
            replace hrun := Lib.hid hrun
            go_wp2_with (first
              | (refine wpList_app rfl _ _ _ rfl _ _ rfl rfl _ _ hrun.out ?_; refine Stop.i ?_)
              | fail)
            unfold Stop
            clear e2 e3 e4 e5 e6 hrun
            go_wp2_with fail
            go_roundg (gk - 1)
            case measure => omega
            case rel =>
              obtain ⟨ho, hall, hb, hat, haf, hfl, ho2, hb2⟩ := HX.out
              exact ⟨k + 1, by omega, by go_num, by rw [hfl]; exact HR.out.2.1, by rw [hat, hall, ← HOK.out]; rfl, below_upd hb2 HR.out.2.2 (Nat.le_refl _) (fun j hj => (own_ge ho2 hj).1)⟩
        · obtain rfl : k = rs.length := by omega
          rw [List.take_length] at ho hall
          have k1 : ¬ ((rs.length : Int) < (rs.length : Int)) := by omega
          have hv := own_keep HL.out.1 (Upd.of_below (S := fun _ => False) hb) (fun _ _ h => h)
          have HE : Hid (PlOut w l rs (.returned (.tuple #[vl, u8, .bool true])) wr) :=
            ⟨HL.out.2.2.trans (hb.mono HL.out.2.2.size), .inr ⟨by rw [HL.out.2.1, hall]; rfl, vl, u8, rfl, (Sl.of_own hv).rd, (Sl.of_own ho).rd⟩⟩
          clear ho hall hb hv
          go_wp2_with fail
          refine bodyPost_ret (v := .tuple #[vl, u8, .bool true]) (by simp [results, Tryz.results10, go_sem]) rfl HE.out
def enR (f : Int → Option EI) (b : Nat) : List Value := match f (b : Int) with
  | none => [.int .i64 (-1), .int .i64 0, .bool false]
  | some e => [.int .i64 e.s, .int .i64 e.x, .bool e.d]
def slR (f : Int → Option EI) (b : Nat) : Int := match f (b : Int) with
  | none => -1
  | some e => e.s
theorem enR_len (f : Int → Option EI) (b : Nat) : (enR f b).length = 3 := by unfold enR; split <;> rfl
theorem enR_0 (f : Int → Option EI) (b : Nat) : (enR f b)[0]? = some (.int .i64 (slR f b)) := by unfold enR slR; split <;> rfl
def Out19 (w : World) (g : Nat) (f : Int → Option EI) : Prop := ∃ cur : Array Value, w.heap[g]? = some (.cells cur 35 (0, 0)) ∧ 60 ≤ cur.size ∧ ∀ b, b < 20 → ∀ j, j < 3 → cur[b * 3 + j]? = (enR f b)[j]?
section
variable {w w' : World} {g : Nat} {f : Int → Option EI}
theorem Out19.keep (h : Out19 w g f) {S : Nat → Prop} (hu : Upd S w w') (hg : ¬ S g) : Out19 w' g f := by
  obtain ⟨cur, h1, h2⟩ := h
  exact ⟨cur, (hu.block g (lt_of_block h1) hg).trans h1, h2⟩
theorem Out19.c0 (h : Out19 w g f) {b : Nat} (hb : b < 20) : w.cell? ⟨g, b * 3, none⟩ = some (.int .i64 (slR f b)) := by
  obtain ⟨cur, h1, h2, h3⟩ := h
  rw [cell_of_block h1]
  have := h3 b hb 0 (by decide)
  rw [Nat.add_zero] at this
  rw [this, enR_0]
theorem Out19.th (h : Out19 w g f) {b : Nat} (hb : b < 20) : w.there g (b * 3) 3 := by
  obtain ⟨cur, h1, h2, h3⟩ := h
  intro j hj
  rw [cell_of_block h1, frozen_of_block h1]
  exact ⟨by rw [Array.getElem?_eq_getElem (by omega)]; rfl, rfl⟩
theorem Out19.put (h : Out19 w g f) {b : Nat} (hb : b < 20) {vs : List Value} (hl : vs.length = 3) {f' : Int → Option EI} (h1 : enR f' b = vs) (h2 : ∀ k, k ≠ b → enR f' k = enR f k) : Out19 (w.setCells g (b * 3) vs) g f' := by
  obtain ⟨cur, hg, hs, hc⟩ := h
  obtain ⟨cur', k2, k3, k4⟩ := heap_setCells_same vs (b * 3) w g cur 35 (0, 0) hg
  refine ⟨cur', k2, by omega, fun k hk j hj => ?_⟩
  rw [k4, hl]
  by_cases e : k = b
  · subst e
    rw [if_pos (by omega), h1]
    congr 1
    omega
  · rw [if_neg (by omega), h2 k e]
    exact hc k hk j hj
end
theorem enR_put (f : Int → Option EI) (e : EI) (b : Nat) (he : e.b = (b : Int)) : enR (apPut f e) b = [.int .i64 e.s, .int .i64 e.x, .bool e.d] ∧ ∀ k : Nat, k ≠ b → enR (apPut f e) k = enR f k := by
  constructor
  · unfold enR apPut; rw [if_pos he.symm]
  · intro k hk; unfold enR apPut; rw [if_neg (by rw [he]; omega)]
theorem enR_rec (f : Int → Option EI) (r : List Int) (b : Nat) (hb : r.getD 3 0 = (b : Int)) : enR (apR f r) b = (if r.getD 2 0 = 0 then [.int .i64 (r.getD 4 0), .int .i64 (r.getD 6 0), .bool (r.getD 5 0 == 1)] else [.int .i64 (-1), .int .i64 0, .bool false]) ∧ ∀ k : Nat, k ≠ b → enR (apR f r) k = enR f k := by
  constructor
  · unfold enR apR
    rw [if_pos hb.symm]
    by_cases h : r.getD 2 0 = 0
    · rw [if_pos h, if_pos h]; rfl
    · rw [if_neg h, if_neg h]
  · intro k hk; unfold enR apR; rw [if_neg (by rw [hb]; omega)]
def NoDup (F : Int → Option EI) : Prop := ∀ i k : Nat, k < i → i < 20 → 0 ≤ slR F i → slR F i ≠ slR F k
def RfOut (w : World) (l : List EI) (rs : List (List Int)) (e : Ending) (w' : World) : Prop :=
  Below w.heap.size w w' ∧ ((∃ g cap, e = .returned (.tuple #[.slice (some ⟨g, 0, none⟩) 20 cap, .bool true]) ∧ Out19 w' g (apRs (apM l) rs) ∧ w.heap.size ≤ g ∧ (l.map EI.b).Nodup ∧ NoDup (apRs (apM l) rs)) ∨
    (e = .returned (.tuple #[.slice none 0 0, .bool false]) ∧ (¬ (l.map EI.b).Nodup ∨ ¬ NoDup (apRs (apM l) rs))))
theorem infoRf : (Tryz.prog.info? 35).map (fun i => (i.zero.map (·.cells.size), i.size, i.bytes)) = some (some 3, 3, 24) := by kernel_rfl
theorem infoRf3 : (Tryz.prog.info? 35).map (·.size) = some 3 := by kernel_rfl
theorem infoRf_parts : ∃ i z, Tryz.prog.info? 35 = some i ∧ i.zero = some z ∧ z.cells.size = 3 ∧ i.size = 3 ∧ i.bytes = 24 := by
  obtain ⟨i, hi, hb⟩ := Option.map_eq_some_iff.1 infoRf
  simp only [Prod.mk.injEq] at hb
  obtain ⟨h1, h2, h3⟩ := hb
  obtain ⟨z, hz, hzs⟩ := Option.map_eq_some_iff.1 h1
  exact ⟨i, z, hi, hz, hzs, h2, h3⟩
def noC : List Value := [.int .i64 (-1), .int .i64 0, .bool false]
theorem noC_one : ∀ v ∈ noC, v.oneCell' = true := by
  intro v hv
  simp only [noC, List.mem_cons, List.not_mem_nil, or_false] at hv
  rcases hv with rfl | rfl | rfl <;> rfl
theorem app_no {w : World} {base n : Nat} {v : Value} {xs : List Value} (ty : TypeId) (h : w.ownsRow base 35 3 v n xs) (hb : base ≤ w.heap.size) (hn : n ≤ 100) :
    ∃ v' w', (Builtin.append_ #[31, 31] ty #[v, .slice (some ⟨w.heap.size, 0, none⟩) 1 1]).run Tryz.prog (w.alloc (.cells noC.toArray 35)) = .ok v' w' ∧ w'.ownsRow base 35 3 v' (n + 1) (xs ++ noC) ∧ Upd (ownS v) w w' := by
  obtain ⟨i, z, hi, hz, hzs, hsz, hby⟩ := infoRf_parts
  have hu : Upd (fun _ => False) w (w.alloc (.cells noC.toArray 35)) := (Upd.refl _ w).alloc _
  have h2 := own_keep h hu (fun _ _ h => h)
  have hg : (w.alloc (.cells noC.toArray 35)).heap[w.heap.size]? = some (.cells noC.toArray 35 (0, 0)) := heap_alloc_last w _ rfl
  obtain ⟨v', w', hr, ho, hgr, -⟩ := run_append_own_wide (P := Tryz.prog) _ base 31 ty 35 i z 3 24 Tryz.underlying31 hi hz hsz hby hzs (by decide) v n xs h2
    ⟨w.heap.size, 0, none⟩ 1 1 noC rfl (fun j u hj => by rw [Addr.add_lit, cell_of_block hg, Nat.zero_add]; simpa using hj) noC_one (by unfold maxLen; omega) (by omega) (by simp; omega)
  exact ⟨v', w', hr, ho, (hu.mono (fun _ _ h => h.elim)).trans (Upd.of_grown hgr (fun g hg _ => hg))⟩
def rowN (k : Nat) : List Value := (List.range k).flatMap fun _ => noC
theorem rowN_snoc (k : Nat) : rowN (k + 1) = rowN k ++ noC := by simp [rowN, List.range_succ]
theorem rowN_at : ∀ (k b j : Nat), b < k → j < 3 → (rowN k)[b * 3 + j]? = noC[j]?
  | 0, b, j, h, _ => by omega
  | k + 1, b, j, h, hj => by
    have hl : (rowN k).length = k * 3 := length_flat (f := fun _ : Nat => noC) (fun _ => rfl) (List.range k) |>.trans (by rw [List.length_range]; rfl)
    rw [rowN_snoc]
    by_cases hb : b < k
    · rw [List.getElem?_append_left (by rw [hl]; omega)]
      exact rowN_at k b j hb hj
    · obtain rfl : b = k := by omega
      rw [List.getElem?_append_right (by rw [hl]; omega), hl, Nat.add_sub_cancel_left]
theorem out_start {w : World} {base : Nat} {v : Value} (h : w.ownsRow base 35 3 v 20 (rowN 20)) : ∃ g cap, v = .slice (some ⟨g, 0, none⟩) 20 cap ∧ base ≤ g ∧ Out19 w g (apM []) := by
  rcases h.2 with ⟨-, h⟩ | ⟨g, cap, cur, rfl, hb, hg, hnc, hcm, hcs, ht⟩
  · cases h
  · refine ⟨g, cap, rfl, hb, cur, hg, by omega, fun b hb j hj => ?_⟩
    have := rowN_at 20 b j hb hj
    rw [← ht, List.getElem?_take, if_pos (by omega), Array.getElem?_toList] at this
    rw [this]
    rfl
theorem slR_neg {f : Int → Option EI} {b : Nat} (h : ∀ s e, f s = some e → 0 ≤ e.s) : (slR f b < 0 ↔ (f (b : Int)).isSome = false) ∧ ((f (b : Int)).isSome = false → slR f b = -1) := by
  unfold slR
  cases hf : f (b : Int) with
  | none => simp
  | some e => have := h _ _ hf; simp; omega
set_option maxRecDepth 100000 in
set_option maxHeartbeats 4000000 in
theorem ref19 {w : World} {v0 v1 : Value} {l : List EI} {rs : List (List Int)} (hs : Rd w 5 v0 l.length ((l.map EI.ch).flatMap Ch.cs)) (hr : Rd w 5 v1 rs.length ((rs.map recCh).flatMap Ch.cs)) (hl1 : l.length ≤ 20) (hr1 : rs.length ≤ 40)
    (hl : ∀ e ∈ l, okE e = true) (hrr : ∀ r ∈ rs, okRe r = true) :
    Calls Tryz.prog 13 #[.int .i64 20, v0, v1] w (RfOut w l rs) := by
  have hl' : ∀ e ∈ l, 0 ≤ e.b ∧ e.b ≤ 19 ∧ 0 ≤ e.s := fun e he => by
    have := hl e he
    unfold okE at this
    simp only [Bool.not_eq_true', Bool.or_eq_false_iff, decide_eq_false_iff_not] at this
    omega
  have hrr' : ∀ r ∈ rs, (0 ≤ r.getD 3 0 ∧ r.getD 3 0 ≤ 19) ∧ 0 ≤ r.getD 4 0 := fun r he => by
    have := hrr r he
    unfold okRe at this
    simp only [Bool.not_eq_true', Bool.or_eq_false_iff, decide_eq_false_iff_not] at this
    omega
  obtain ⟨ao, cap, rfl⟩ := hs.nil_iff
  obtain ⟨bo, cbp, rfl⟩ := hr.nil_iff
  have H := Lib.hid (And.intro hs (And.intro hr (And.intro hl1 (And.intro hr1 (And.intro hl' hrr')))))
  clear hs hr hl1 hr1 hl hrr hl' hrr'
  go_enter Tryz.func13, Tryz.ntmps13
  go_wp2_with fail
  go_loopg [8, 9] 20 (fun gk s8 s9 wr => ∃ k : Nat, k + gk = 20 ∧ s9 = .int .i64 (k : Int) ∧ wr.ownsRow w.heap.size 35 3 s8 k (rowN k) ∧ Below w.heap.size w wr)
  case atStart => exact ⟨0, by omega, rfl, World.ownsRow_nil _ _ _ _, Below.refl _ _⟩
  case round =>
    obtain ⟨k, hk, rfl, ho, hb⟩ := hrel
    by_cases hlt : k < 20
    · have k1 : (k : Int) < 20 := by omega
      obtain ⟨v', w', hrun, ho3, hu3⟩ := app_no (w := wr) 31 ho hb.size (by omega)
      have HR := Lib.hid hrun
      have HX := Lib.hid (And.intro ho (And.intro hb (And.intro ho3 hu3)))
      clear ho hb hrun ho3 hu3
      go_wp2_with (first
        | (refine wpList_app rfl _ _ _ rfl _ _ rfl rfl _ _ HR.out ?_; refine Stop.i ?_)
        | fail)
      unfold Stop
      clear HR
      go_wp2_with fail
      go_roundg (gk - 1)
      case measure => omega
      case rel =>
        obtain ⟨ho, hb, ho3, hu3⟩ := HX.out
        exact ⟨k + 1, by omega, by go_num, by rw [rowN_snoc]; exact ho3, below_upd hb hu3 (Nat.le_refl _) (fun j hj => (own_ge ho hj).1)⟩
    · obtain rfl : k = 20 := by omega
      have k1 : ¬ (((20 : Nat) : Int) < 20) := by decide
      obtain ⟨g, cp, rfl, hgb, hO⟩ := out_start ho
      have HO := Lib.hid (And.intro hgb (And.intro hO hb))
      obtain ⟨wl, hwl⟩ : ∃ wl : World, wl = wr := ⟨_, rfl⟩
      rw [← hwl] at HO ⊢
      clear ho hgb hO hb hwl
      go_wp2_with fail
      go_loopg [10] l.length (fun gk s10 wr => ∃ k : Nat, k + gk = l.length ∧ s10 = .int .i64 (k : Int) ∧ Out19 wr g (apM (l.take k)) ∧ ((l.take k).map EI.b).Nodup ∧ Below w.heap.size w wr)
      case atStart => exact ⟨0, by omega, rfl, HO.out.2.1, List.nodup_nil, HO.out.2.2⟩
      case round =>
        obtain ⟨k, hk, rfl, hO, hnd, hb⟩ := hrel
        by_cases hlt : k < l.length
        · have k1 : (k : Int) < (l.length : Int) := by omega
          have k0 : (0 : Int) ≤ (k : Int) := by omega
          have kb : (k : Int) < 20 := by have := H.out.2.2.1; omega
          obtain ⟨ge, oe, cpe, e, hgl, hcell⟩ := H.out.1.at (by omega)
          cases e
          have hx := flat_row (enc := Ch.cs) (m := 5) (L := l.map EI.ch) (fun _ => rfl) hcell (k := k) (by rw [List.length_map]; exact hlt)
          rw [List.getElem_map] at hx
          have hin := H.out.2.2.2.2.1 _ (List.getElem_mem hlt)
          have hall : ∀ s e, apM (l.take k) s = some e → 0 ≤ e.s := apM_all (p := fun e => 0 ≤ e.s) _ _ (fun s e h => by cases h) (fun e he => (H.out.2.2.2.2.1 e (List.mem_of_mem_take he)).2.2)
          have hnx := apM_take l hlt
          have hn1 := @nodup_snoc l k hlt hnd
          have hn2 := @nodup_not l k hlt
          obtain ⟨x, hxx⟩ : ∃ x, x = l[k] := ⟨_, rfl⟩
          rw [← hxx] at hx hin hnx hn1 hn2
          obtain ⟨bn, hbn⟩ : ∃ bn : Nat, x.b = (bn : Int) := ⟨x.b.toNat, by omega⟩
          have hb20 : bn < 20 := by omega
          obtain ⟨hsn, hsm⟩ := @slR_neg (apM (l.take k)) bn hall
          have hrow : wr.rangeAt ge (oe + k * 5) x.ch.cs := Below.range hb hx
          have e1 : wr.cell? ⟨ge, oe + k * 5 + 1, none⟩ = some (.int .i64 (bn : Int)) := by rw [← hbn]; exact hrow 1 _ rfl
          have eR : wr.rangeAt ge (oe + k * 5 + 2) [.int .i64 x.s, .int .i64 x.x, .bool x.d] := fun j v hv => by
            rw [Nat.add_assoc]
            refine hrow (2 + j) v ?_
            rw [Nat.add_comm]
            exact hv
          have c0 := hO.c0 hb20
          obtain ⟨sv, hsv⟩ : ∃ sv, sv = slR (apM (l.take k)) bn := ⟨_, rfl⟩
          rw [← hsv] at c0 hsn hsm
          rw [hbn] at hn1 hn2
          have b1 : (bn : Int) < 20 := by omega
          have b0 : (0 : Int) ≤ (bn : Int) := by omega
          have HX := Lib.hid (And.intro hO (And.intro hnd (And.intro hb (And.intro hnx (And.intro hn1 (And.intro hn2 (And.intro hsv (And.intro hgl (And.intro hsn (And.intro hb20 hbn))))))))))
          cases hso : (apM (l.take k) (bn : Int)).isSome with
          | true =>
            have hs0 : 0 ≤ sv := by
              have : ¬ sv < 0 := fun h => by have := hsn.1 h; rw [hso] at this; cases this
              omega
            have z1 : decide (0 ≤ sv) = true := by simpa using hs0
            have HF : Hid (RfOut w l rs (.returned (.tuple #[.slice none 0 0, .bool false])) wr) := ⟨hb, .inr ⟨rfl, .inl (hn2 hso)⟩⟩
            clear hx hcell hxx hin hall hnx hn1 hn2 hsn hsm hrow hO hnd hb hsv hgl hso hbn
            go_wp2_with fail
            refine bodyPost_ret (v := .tuple #[.slice none 0 0, .bool false]) (by simp [results, Tryz.results13, go_sem]) rfl HF.out
          | false =>
            have hm1 := hsm hso
            have HSO := Lib.hid hso
            rw [hm1] at c0
            have hth : wr.drew.there g (bn * 3) 3 := (hO.keep ((Upd.refl (fun _ => False) wr).drew) (fun h => h)).th hb20
            clear hx hcell hxx hin hall hnx hn1 hn2 hsn hsm hrow hO hnd hb hsv hgl hso hbn hm1
            go_wp2_with fail
            have hgg : ge ≠ g := by have h1 := HX.out.2.2.2.2.2.2.2.1; have h2 := HO.out.1; omega
            refine wp_region_held_drew (S := fun W => W.cell? ⟨ge, oe + k * 5 + 1, none⟩ = some (.int .i64 (bn : Int)) ∧ W.rangeAt ge (oe + k * 5 + 2) [.int .i64 x.s, .int .i64 x.x, .bool x.d]) (by kernel_rfl) (⟨by rw [World.cell?_drew]; exact e1, by rw [World.rangeAt_drew]; exact eR⟩) (fun hHeld => ?_)
            refine Wl.i [0, 1, 2, 3, 4, 5, 6, 7, 8, 9] ?_; iterate 10 refine Wl.t hHeld ?_
            refine Wl.o ?_
            refine Wl.l 10 (fun w h => h.2) Tryz.underlying35 infoRf3 hHeld ?_
            refine Wl.i [11] ?_; refine Wl.t hHeld ?_
            refine Wl.o ?_
            refine Wl.r 12 (fun K hK => ?_)
            rw [if_pos (by rfl)]
            refine wp_store_mid _ _ _ rfl _ _ ([Value.int .i64 x.s, .int .i64 x.x, .bool x.d]).toArray rfl rfl (hth) (infoRf3) (all_oneCell_toArray (by intro v hv; simp only [List.mem_cons, List.not_mem_nil, or_false] at hv; rcases hv with rfl | rfl | rfl <;> rfl)) ?_
            simp only [Act.put, List.setIfInBounds_toArray]
            have hur := upd_row wr.drew g (bn * 3) [Value.int .i64 x.s, .int .i64 x.x, .bool x.d]
            refine hK.out _ _ (⟨hur.cellv hHeld.1 hgg, hur.range hHeld.2 hgg⟩) (fun hHeld2 => ?_)
            clear hK K hHeld2
            refine Wl.d ?_
            clear hHeld e1 eR c0
            go_wp2
            go_roundg (gk - 1)
            case measure => omega
            case rel =>
              obtain ⟨hO, hnd, hb, hnx, hn1, hn2, hsv, hgl, hsn, hb20, hbn⟩ := HX.out
              have hp := enR_put (apM (l.take k)) x bn hbn
              have hO2 := (hO.keep ((Upd.refl (fun _ => False) wr).drew) (fun h => h)).put hb20 (vs := [Value.int .i64 x.s, .int .i64 x.x, .bool x.d]) rfl (f' := apPut (apM (l.take k)) x) hp.1 hp.2
              refine ⟨k + 1, by omega, by go_num, by rw [hnx]; exact hO2, hn1 HSO.out, ?_⟩
              exact below_upd hb (((Upd.refl (fun j => j = g) wr).drew).trans hur) (Nat.le_refl _) (fun j hj => by rw [hj]; exact HO.out.1)
        · obtain rfl : k = l.length := by omega
          rw [List.take_length] at hO hnd
          have k1 : ¬ ((l.length : Int) < (l.length : Int)) := by omega
          have HL := Lib.hid (And.intro hO (And.intro hnd hb))
          clear hO hnd hb
          go_wp2_with fail
          go_loopg [11] rs.length (fun gk s11 wr => ∃ k : Nat, k + gk = rs.length ∧ s11 = .int .i64 (k : Int) ∧ Out19 wr g (apRs (apM l) (rs.take k)) ∧ Below w.heap.size w wr)
          case atStart => exact ⟨0, by omega, rfl, HL.out.1, HL.out.2.2⟩
          case round =>
            obtain ⟨k, hk, rfl, hO, hb⟩ := hrel
            by_cases hlt : k < rs.length
            · have k1 : (k : Int) < (rs.length : Int) := by omega
              have k0 : (0 : Int) ≤ (k : Int) := by omega
              have kb : (k : Int) < 40 := by have := H.out.2.2.2.1; omega
              obtain ⟨ge, oe, cpe, e, hgl, hcell⟩ := H.out.2.1.at (by omega)
              cases e
              have hx := flat_row (enc := Ch.cs) (m := 5) (L := rs.map recCh) (fun _ => rfl) hcell (k := k) (by rw [List.length_map]; exact hlt)
              rw [List.getElem_map] at hx
              have hin := H.out.2.2.2.2.2 _ (List.getElem_mem hlt)
              have hnx := apRs_take (apM l) rs hlt
              obtain ⟨x, hxx⟩ : ∃ x, x = rs[k] := ⟨_, rfl⟩
              rw [← hxx] at hx hin hnx
              obtain ⟨bn, hbn⟩ : ∃ bn : Nat, x.getD 3 0 = (bn : Int) := ⟨(x.getD 3 0).toNat, by omega⟩
              have hb20 : bn < 20 := by omega
              have hrow : wr.rangeAt ge (oe + k * 5) (recCh x).cs := Below.range hb hx
              have e0 : wr.cell? ⟨ge, oe + k * 5, none⟩ = some (.int .i64 (x.getD 2 0)) := hrow 0 _ rfl
              have e1 : wr.cell? ⟨ge, oe + k * 5 + 1, none⟩ = some (.int .i64 (bn : Int)) := by rw [← hbn]; exact hrow 1 _ rfl
              have eR : wr.rangeAt ge (oe + k * 5 + 2) [.int .i64 (x.getD 4 0), .int .i64 (x.getD 6 0), .bool (x.getD 5 0 == 1)] := fun j v hv => by
                rw [Nat.add_assoc]
                refine hrow (2 + j) v ?_
                rw [Nat.add_comm]
                exact hv
              have hp := enR_rec (apRs (apM l) (rs.take k)) x bn hbn
              have b1 : (bn : Int) < 20 := by omega
              have b0 : (0 : Int) ≤ (bn : Int) := by omega
              have hgg : ge ≠ g := by have h2 := HO.out.1; omega
              have HX := Lib.hid (And.intro hO (And.intro hb (And.intro hnx (And.intro hp hb20))))
              obtain ⟨x2, hx2⟩ : ∃ y, y = x.getD 2 0 := ⟨_, rfl⟩
              obtain ⟨x4, hx4⟩ : ∃ y, y = x.getD 4 0 := ⟨_, rfl⟩
              obtain ⟨x5, hx5⟩ : ∃ y, y = (x.getD 5 0 == 1) := ⟨_, rfl⟩
              obtain ⟨x6, hx6⟩ : ∃ y, y = x.getD 6 0 := ⟨_, rfl⟩
              rw [← hx2] at e0
              rw [← hx4, ← hx5, ← hx6] at eR
              have HQ := Lib.hid (And.intro hx2 (And.intro hx4 (And.intro hx5 hx6)))
              clear hx hcell hxx hin hnx hrow hO hb hgl hbn hp hx2 hx4 hx5 hx6
              by_cases h2 : x2 = 0
              · have HZ := Lib.hid h2
                have hth : wr.drew.there g (bn * 3) 3 := (HX.out.1.keep ((Upd.refl (fun _ => False) wr).drew) (fun h => h)).th hb20
                rw [h2] at e0
                clear h2
                go_wp2_with fail
                refine wp_region_held_drew (S := fun W => W.cell? ⟨ge, oe + k * 5 + 1, none⟩ = some (.int .i64 (bn : Int)) ∧ W.rangeAt ge (oe + k * 5 + 2) [.int .i64 x4, .int .i64 x6, .bool x5]) (by kernel_rfl) (⟨by rw [World.cell?_drew]; exact e1, by rw [World.rangeAt_drew]; exact eR⟩) (fun hHeld => ?_)
                refine Wl.i [0, 1, 2, 3, 4, 5, 6, 7, 8, 9] ?_; iterate 10 refine Wl.t hHeld ?_
                refine Wl.o ?_
                refine Wl.l 10 (fun w h => h.2) Tryz.underlying35 infoRf3 hHeld ?_
                refine Wl.i [11] ?_; refine Wl.t hHeld ?_
                refine Wl.o ?_
                refine Wl.r 12 (fun K hK => ?_)
                rw [if_pos (by rfl)]
                refine wp_store_mid _ _ _ rfl _ _ ([Value.int .i64 x4, .int .i64 x6, .bool x5]).toArray rfl rfl (hth) (infoRf3) (all_oneCell_toArray (by intro v hv; simp only [List.mem_cons, List.not_mem_nil, or_false] at hv; rcases hv with rfl | rfl | rfl <;> rfl)) ?_
                simp only [Act.put, List.setIfInBounds_toArray]
                have hur := upd_row wr.drew g (bn * 3) [Value.int .i64 x4, .int .i64 x6, .bool x5]
                refine hK.out _ _ (⟨hur.cellv hHeld.1 hgg, hur.range hHeld.2 hgg⟩) (fun hHeld2 => ?_)
                clear hK K hHeld2
                refine Wl.d ?_
                clear hHeld e0 e1 eR
                go_wp2
                go_roundg (gk - 1)
                case measure => omega
                case rel =>
                  obtain ⟨hO, hb, hnx, hp, hb20⟩ := HX.out
                  have hO2 := (hO.keep ((Upd.refl (fun _ => False) wr).drew) (fun h => h)).put hb20 (vs := [Value.int .i64 x4, .int .i64 x6, .bool x5]) rfl (f' := apR (apRs (apM l) (rs.take k)) x) (by rw [hp.1, if_pos (by rw [← HQ.out.1]; exact HZ.out), HQ.out.2.1, HQ.out.2.2.1, HQ.out.2.2.2]) hp.2
                  refine ⟨k + 1, by omega, by go_num, by rw [hnx]; exact hO2, ?_⟩
                  exact below_upd hb (((Upd.refl (fun j => j = g) wr).drew).trans hur) (Nat.le_refl _) (fun j hj => by rw [hj]; exact HO.out.1)
              · have q0 : (x2 == 0) = false := by simpa using h2
                have HZ := Lib.hid h2
                have hth : wr.there g (bn * 3) 3 := HX.out.1.th hb20
                clear h2
                go_wp2_with (first
                  | (refine wpList_store_mid rfl _ _ _ rfl _ _ noC.toArray rfl rfl hth infoRf3 (all_oneCell_toArray noC_one) ?_)
                  | fail)
                have hur := upd_row wr g (bn * 3) noC
                clear e0 e1 eR
                go_roundg (gk - 1)
                case measure => omega
                case rel =>
                  obtain ⟨hO, hb, hnx, hp, hb20⟩ := HX.out
                  have hO2 := hO.put hb20 (vs := noC) rfl (f' := apR (apRs (apM l) (rs.take k)) x) (by rw [hp.1, if_neg (by rw [← HQ.out.1]; exact HZ.out)]; rfl) hp.2
                  refine ⟨k + 1, by omega, by go_num, by rw [hnx]; exact hO2, ?_⟩
                  exact below_upd hb hur (Nat.le_refl _) (fun j hj => by rw [hj]; exact HO.out.1)
            · obtain rfl : k = rs.length := by omega
              rw [List.take_length] at hO
              have k1 : ¬ ((rs.length : Int) < (rs.length : Int)) := by omega
              have HK := Lib.hid (And.intro hO hb)
              clear hO hb
              obtain ⟨Fm, hFm⟩ : ∃ Fm, Fm = apRs (apM l) rs := ⟨_, rfl⟩
              rw [← hFm] at HK
              have HFm := Lib.hid hFm
              clear hFm
              go_wp2_with fail
              go_loopg [12] 20 (fun gk s12 wr => ∃ i : Nat, i + gk = 20 ∧ s12 = .int .i64 (i : Int) ∧ Out19 wr g Fm ∧ Below w.heap.size w wr ∧ ∀ a b : Nat, b < a → a < i → 0 ≤ slR Fm a → slR Fm a ≠ slR Fm b)
              case atStart => exact ⟨0, by omega, rfl, HK.out.1, HK.out.2, fun a b _ h => by omega⟩
              case round =>
                obtain ⟨i, hi, rfl, hO, hb, hnd⟩ := hrel
                by_cases hlt : i < 20
                · have k1 : (i : Int) < 20 := by omega
                  have HI := Lib.hid (And.intro hO (And.intro hb (And.intro hnd hi)))
                  clear hO hb hnd
                  obtain ⟨go, hgo⟩ : ∃ x, x = gk := ⟨_, rfl⟩
                  have HGO := Lib.hid hgo
                  clear hgo
                  go_wp2_with fail
                  go_loopg [13] i (fun gk s13 wr => ∃ k : Nat, k + gk = i ∧ s13 = .int .i64 (k : Int) ∧ Out19 wr g Fm ∧ Below w.heap.size w wr ∧ ∀ b : Nat, b < k → 0 ≤ slR Fm i → slR Fm i ≠ slR Fm b)
                  case atStart => exact ⟨0, by omega, rfl, HI.out.1, HI.out.2.1, fun b h => by omega⟩
                  case round =>
                    obtain ⟨k, hk, rfl, hO, hb, hne⟩ := hrel
                    by_cases hlk : k < i
                    · have k2 : (k : Int) < (i : Int) := by omega
                      have i0 : (0 : Int) ≤ (i : Int) := by omega
                      have k0 : (0 : Int) ≤ (k : Int) := by omega
                      have k20 : (k : Int) < 20 := by omega
                      have ci := hO.c0 (b := i) (by omega)
                      have ck := hO.c0 (b := k) (by omega)
                      obtain ⟨si, hsi⟩ : ∃ si, si = slR Fm i := ⟨_, rfl⟩
                      obtain ⟨sk, hsk⟩ : ∃ sk, sk = slR Fm k := ⟨_, rfl⟩
                      rw [← hsi] at ci hne
                      rw [← hsk] at ck
                      have HX := Lib.hid (And.intro hO (And.intro hb (And.intro hne (And.intro hsi hsk))))
                      clear hO hb hne hsi hsk
                      by_cases h0 : 0 ≤ si
                      · have z1 : decide (0 ≤ si) = true := by simpa using h0
                        by_cases he : si = sk
                        · have z2 : (si == sk) = true := by simpa using he
                          have HF : Hid (∀ w2, Upd (fun _ => False) wr w2 → RfOut w l rs (.returned (.tuple #[.slice none 0 0, .bool false])) w2) := fun w2 hu => ⟨HX.out.2.1.trans ((Upd.below hu).mono HX.out.2.1.size), .inr ⟨rfl, .inr fun hn => by
                            rw [← HFm.out] at hn
                            exact hn i k hlk hlt (by rw [← HX.out.2.2.2.1]; exact h0) (by rw [← HX.out.2.2.2.1, ← HX.out.2.2.2.2]; exact he)⟩⟩
                          subst he
                          go_wp2_with fail
                          go_quiet (fail)
                          have hud := Lib.hid ((Upd.refl (fun _ => False) wr).drewN nq)
                          generalize wr.drewN nq = w2 at *
                          clear ci ck
                          go_wp2_with fail
                          refine bodyPost_ret (v := .tuple #[.slice none 0 0, .bool false]) (by simp [results, Tryz.results13, go_sem]) rfl (HF.out _ hud.out)
                        · have z2 : (si == sk) = false := by simpa using he
                          have HE := Lib.hid he
                          clear he
                          go_wp2_with fail
                          go_quiet (fail)
                          have hud := Lib.hid ((Upd.refl (fun _ => False) wr).drewN nq)
                          generalize wr.drewN nq = w2 at *
                          clear ci ck
                          go_wp2_with fail
                          go_roundg (gk - 1)
                          case measure => omega
                          case rel =>
                            obtain ⟨hO, hb, hne, hsi, hsk⟩ := HX.out
                            refine ⟨k + 1, by omega, by go_num, hO.keep hud.out (fun h => h), hb.trans ((Upd.below hud.out).mono hb.size), fun b hbk h => ?_⟩
                            rw [← hsi] at h ⊢
                            by_cases e : b = k
                            · subst e; rw [← hsk]; exact HE.out
                            · exact hne b (by omega) h
                      · have z1 : decide (0 ≤ si) = false := by simpa using h0
                        go_wp2_with fail
                        go_quiet (fail)
                        have hud := Lib.hid ((Upd.refl (fun _ => False) wr).drewN nq)
                        generalize wr.drewN nq = w2 at *
                        clear ci ck
                        go_wp2_with fail
                        go_roundg (gk - 1)
                        case measure => omega
                        case rel =>
                          obtain ⟨hO, hb, hne, hsi, hsk⟩ := HX.out
                          refine ⟨k + 1, by omega, by go_num, hO.keep hud.out (fun h => h), hb.trans ((Upd.below hud.out).mono hb.size), fun b hbk h => ?_⟩
                          rw [← hsi] at h
                          omega
                    · obtain rfl : k = i := by omega
                      have k2 : ¬ ((k : Int) < (k : Int)) := by omega
                      have HX := Lib.hid (And.intro hO (And.intro hb hne))
                      clear hO hb hne
                      go_wp2_with fail
                      go_roundg (go - 1)
                      case measure => have := HGO.out; have := HI.out.2.2.2; omega
                      case rel =>
                        obtain ⟨hO, hb, hne⟩ := HX.out
                        refine ⟨k + 1, by have := HGO.out; have := HI.out.2.2.2; omega, by go_num, hO, hb, fun a b h1 h2 h3 => ?_⟩
                        by_cases e : a = k
                        · subst e; exact hne b h1 h3
                        · exact HI.out.2.2.1 a b h1 (by omega) h3
                · obtain rfl : i = 20 := by omega
                  have k1 : ¬ (((20 : Nat) : Int) < 20) := by decide
                  have HE : Hid (RfOut w l rs (.returned (.tuple #[.slice (some ⟨g, 0, none⟩) 20 cp, .bool true])) wr) := ⟨hb, .inl ⟨g, cp, rfl, by rw [← HFm.out]; exact hO, HO.out.1, HL.out.2.1, by rw [← HFm.out]; exact fun a b h1 h2 h3 => hnd a b h1 h2 h3⟩⟩
                  clear hO hb hnd
                  go_wp2_with fail
                  refine bodyPost_ret (v := .tuple #[.slice (some ⟨g, 0, none⟩) 20 cp, .bool true]) (by simp [results, Tryz.results13, go_sem]) rfl HE.out
end Go.Proofs.YtfhfbpmlnjdfoaaGreatDoor
namespace Go.Proofs.YtfhfbpmlnjdfoaaGreatDoor
open Go Go.RowKit
def cntB (L : List EI) (i : Nat) : Nat := L.countP fun e => decide (e.b < (i : Int))
theorem cntB_0 {L : List EI} (h : ∀ e ∈ L, 0 ≤ e.b) : cntB L 0 = 0 := by
  unfold cntB
  rw [List.countP_eq_zero]
  intro e he
  have := h e he
  simp; omega
theorem cntB_20 {L : List EI} (h : ∀ e ∈ L, e.b ≤ 19) : cntB L 20 = L.length := by
  unfold cntB
  rw [List.countP_eq_length]
  intro e he
  have := h e he
  simp; omega
theorem cntB_miss {L : List EI} {i : Nat} (h : ∀ e ∈ L, e.b ≠ (i : Int)) : cntB L (i + 1) = cntB L i := by
  unfold cntB
  refine List.countP_congr fun e he => ?_
  have := h e he
  simp only [decide_eq_true_eq]
  omega
theorem cntB_hit {L : List EI} (hs : L.Pairwise (fun x y => x.b < y.b)) {i : Nat} {e : EI} (he : e ∈ L) (hb : e.b = (i : Int)) : ∃ h : cntB L i < L.length, L[cntB L i] = e ∧ cntB L (i + 1) = cntB L i + 1 := by
  obtain ⟨j, hj, hje⟩ := List.getElem_of_mem he
  have hp := List.pairwise_iff_getElem.1 hs
  have h1 : ∀ a (ha : a < L.length), a < j → L[a].b < (i : Int) := fun a ha haj => by have := hp a j ha hj haj; rw [hje, hb] at this; exact this
  have h2 : ∀ a (ha : a < L.length), j < a → (i : Int) < L[a].b := fun a ha haj => by have := hp j a hj ha haj; rw [hje, hb] at this; exact this
  have ht : ∀ m : Nat, (m : Int) = i ∨ (m : Int) = i + 1 → (L.take j).countP (fun e => decide (e.b < (m : Int))) = j := fun m hm => by
    have e1 : (L.take j).length = j := by rw [List.length_take]; omega
    refine (List.countP_eq_length.2 ?_).trans e1
    · intro x hx
      obtain ⟨a, ha, rfl⟩ := List.getElem_of_mem hx
      rw [List.length_take] at ha
      have := h1 a (by omega) (by omega)
      rw [List.getElem_take]
      simp; omega
  have hd : ∀ m : Nat, (m : Int) = i ∨ (m : Int) = i + 1 → (L.drop (j + 1)).countP (fun e => decide (e.b < (m : Int))) = 0 := fun m hm => by
    rw [List.countP_eq_zero]
    intro x hx
    obtain ⟨a, ha, rfl⟩ := List.getElem_of_mem hx
    rw [List.length_drop] at ha
    have := h2 (j + 1 + a) (by omega) (by omega)
    rw [List.getElem_drop]
    simp; omega
  have hL : ∀ m : Nat, (m : Int) = i ∨ (m : Int) = i + 1 → cntB L m = j + (if e.b < (m : Int) then 1 else 0) := fun m hm => by
    unfold cntB
    have e0 : L = L.take j ++ (L[j] :: L.drop (j + 1)) := by rw [← List.drop_eq_getElem_cons hj, List.take_append_drop]
    conv => lhs; rw [e0]
    rw [List.countP_append, List.countP_cons, ht m hm, hd m hm, hje]
    simp
  have e1 := hL i (.inl rfl)
  have e2 := hL (i + 1) (.inr (by simp))
  rw [hb, if_neg (by omega)] at e1
  rw [hb, if_pos (by simp; omega)] at e2
  refine ⟨by omega, ?_, by omega⟩
  have : cntB L i = j := by omega
  simp only [this, hje]
theorem slR_some {F : Int → Option EI} {i : Nat} (h : 0 ≤ slR F i) : ∃ e, F (i : Int) = some e ∧ slR F i = e.s := by
  unfold slR at h ⊢
  cases hf : F (i : Int) with
  | none => rw [hf] at h; simp at h
  | some e => exact ⟨e, rfl, rfl⟩
theorem lists_nodup {F : Int → Option EI} {L : List EI} (hL : Lists F L) (hn : NoDup F) (hp : ∀ s e, F s = some e → (0 ≤ e.b ∧ e.b ≤ 19) ∧ 0 ≤ e.s) : (L.map EI.s).Nodup := by
  refine List.pairwise_map.2 ((List.pairwise_map.1 hL.1).imp_of_mem fun {x y} hx hy hxy => ?_)
  have fx := (hL.2 x).1 hx
  have fy := (hL.2 y).1 hy
  have px := hp _ _ fx
  have py := hp _ _ fy
  obtain ⟨i, hi⟩ : ∃ i : Nat, x.b = (i : Int) := ⟨x.b.toNat, by omega⟩
  obtain ⟨k, hk⟩ : ∃ k : Nat, y.b = (k : Int) := ⟨y.b.toNat, by omega⟩
  have sx : slR F i = x.s := by unfold slR; rw [← hi, fx]
  have sy : slR F k = y.s := by unfold slR; rw [← hk, fy]
  by_cases h : k < i
  · have := hn i k h (by omega) (by rw [sx]; exact px.2)
    rw [sx, sy] at this
    exact this
  · have := hn k i (by omega) (by omega) (by rw [sy]; exact py.2)
    rw [sx, sy] at this
    exact fun e => this e.symm
theorem nodup_noDup {F : Int → Option EI} {L : List EI} (hL : Lists F L) (hs : (L.map EI.s).Nodup) (ha : AtB F) : NoDup F := by
  intro i k hki hi h0 he
  obtain ⟨e, fe, se⟩ := slR_some h0
  obtain ⟨e', fe', se'⟩ := slR_some (F := F) (i := k) (by rw [← he]; exact h0)
  have be := ha _ _ fe
  have be' := ha _ _ fe'
  have me := (hL.2 e).2 (by rw [be]; exact fe)
  have me' := (hL.2 e').2 (by rw [be']; exact fe')
  obtain ⟨a, hal, hae⟩ := List.getElem_of_mem me
  obtain ⟨b, hbl, hbe⟩ := List.getElem_of_mem me'
  have : a = b := (List.getElem?_inj (l := L.map EI.s) (by rw [List.length_map]; exact hal) hs).1 (by
    rw [List.getElem?_map, List.getElem?_map, List.getElem?_eq_getElem hal, List.getElem?_eq_getElem hbl, hae, hbe]
    show some e.s = some e'.s
    rw [← se, ← se', he])
  subst this
  rw [hae] at hbe
  subst hbe
  rw [be] at be'
  omega
theorem ap_bnd {l : List EI} {rs : List (List Int)} (hl : ∀ e ∈ l, okE e = true) (hr : ∀ r ∈ rs, okRe r = true) : ∀ s e, apRs (apM l) rs s = some e → (0 ≤ e.b ∧ e.b ≤ 19) ∧ 0 ≤ e.s :=
  apRs_all (p := fun e => (0 ≤ e.b ∧ e.b ≤ 19) ∧ 0 ≤ e.s) (fun e he => by
    have := hl e he
    unfold okE at this
    simp only [Bool.not_eq_true', Bool.or_eq_false_iff, decide_eq_false_iff_not] at this
    omega) (fun r he => by
    have := hr r he
    unfold okRe at this
    simp only [Bool.not_eq_true', Bool.or_eq_false_iff, decide_eq_false_iff_not] at this
    show (0 ≤ r.getD 3 0 ∧ r.getD 3 0 ≤ 19) ∧ 0 ≤ r.getD 4 0
    omega)
theorem Out19.row {w : World} {g : Nat} {f : Int → Option EI} (h : Out19 w g f) {b : Nat} (hb : b < 20) : w.rangeAt g (b * 3) (enR f b) := by
  obtain ⟨cur, h1, h2, h3⟩ := h
  intro j v hv
  have hj : j < 3 := by rw [← enR_len f b]; exact (List.getElem?_eq_some_iff.1 hv).1
  rw [cell_of_block h1, h3 b hb j hj]
  exact hv
set_option maxRecDepth 100000 in
theorem run_eqIn_ent (w : World) (d : Nat) (a b : Int) (c : Bool) (e : Int) : (Op.equalIn (d + 1 + 1) 37 (.agg #[.int .i64 a, .int .i64 b, .bool c, .int .i64 e]) (.agg #[.int .i64 a, .int .i64 b, .bool c, .int .i64 e])).run Tryz.prog w = .ok true w := by
  have hu := Tryz.underlying37
  obtain ⟨fs, hfs⟩ : ∃ fs, Tryz.prog.underlying 37 = some (.struct fs) := ⟨_, hu⟩
  have hF : Tryz.prog.fieldsOf 37 = fs := by unfold Program.fieldsOf; rw [hfs]
  have hfe := hfs.symm.trans hu
  injection hfe with hfe
  injection hfe with hfe
  have h2 := fun (x y : Bool) => run_equalIn_bool (P := Tryz.prog) w d 4 x y Tryz.underlying4
  rw [run_equalIn_struct w (d + 1) _ _ _ (by rw [hF]; exact hfs) (by kernel_rfl), hF, hfe]
  simp [Op.eqFields, go_sem, h2, Result.andThen]
theorem run_neq_ent (w : World) (a b : Int) (c : Bool) (e : Int) : (binOp .neq 37 (.agg #[.int .i64 a, .int .i64 b, .bool c, .int .i64 e]) (.agg #[.int .i64 a, .int .i64 b, .bool c, .int .i64 e])).run Tryz.prog w = .ok (.bool false) w := by
  simp only [binOp]
  simp [show Op.equal 37 (.agg #[.int .i64 a, .int .i64 b, .bool c, .int .i64 e]) (.agg #[.int .i64 a, .int .i64 b, .bool c, .int .i64 e]) = Op.equalIn (9998 + 1 + 1) 37 (.agg #[.int .i64 a, .int .i64 b, .bool c, .int .i64 e]) (.agg #[.int .i64 a, .int .i64 b, .bool c, .int .i64 e]) from rfl, run_eqIn_ent w 9998 a b c e]
end Go.Proofs.YtfhfbpmlnjdfoaaGreatDoor
