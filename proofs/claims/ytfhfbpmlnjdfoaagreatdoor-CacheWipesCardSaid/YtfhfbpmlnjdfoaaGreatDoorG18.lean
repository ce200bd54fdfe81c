/- Pages: Write of a checkpoint's sectors, whatever becomes of its calls. Pages: Save, whatever becomes of its calls. The iterator over the blocks of a span: its items are those of the span. -/
import Derived.Test.YtfhfbpmlnjdfoaaGreatDoorG14
import Derived.Test.YtfhfbpmlnjdfoaaGreatDoorG16
import Derived.Test.YtfhfbpmlnjdfoaaGreatDoorG11
import Derived.Test.YtfhfbpmlnjdfoaaGreatDoorG17
namespace Go.Proofs.YtfhfbpmlnjdfoaaGreatDoor
open Go Go.RowKit Go.Shelf
attribute [local go_sem] Oper.semAt_some
def wrsR (F : List Bk) : List (Nat × Bk) → List (Nat × Bk) → List Int → DRes
  | [], O, P => ⟨F, O, P, 0⟩
  | (s, y) :: L, O, P => if (writeR F O P s y).cd = 0 then wrsR F L (writeR F O P s y).O (writeR F O P s y).P else writeR F O P s y
theorem wrsR_F (F : List Bk) (L : List (Nat × Bk)) : ∀ O P, (wrsR F L O P).F = F := by
  induction L with
  | nil => intro O P; rfl
  | cons x L ih =>
    intro O P
    simp only [wrsR]
    split
    · exact ih _ _
    · exact writeR_F _ _ _ _ _
theorem wrsR_O (F : List Bk) (L : List (Nat × Bk)) : ∀ O P, (wrsR F L O P).O.length ≤ O.length + L.length := by
  induction L with
  | nil => intro O P; simp [wrsR]
  | cons x L ih =>
    intro O P
    have h1 := writeR_O F O P x.1 x.2
    simp only [wrsR, List.length_cons]
    split
    · have := ih (writeR F O P x.1 x.2).O (writeR F O P x.1 x.2).P
      omega
    · omega
theorem wrsR_yes {F : List Bk} {x : Nat × Bk} {L O : List (Nat × Bk)} {P : List Int} (h : (writeR F O P x.1 x.2).cd = 0) : wrsR F (x :: L) O P = wrsR F L (writeR F O P x.1 x.2).O (writeR F O P x.1 x.2).P := by
  simp only [wrsR]; exact if_pos h
theorem wrsR_no {F : List Bk} {x : Nat × Bk} {L O : List (Nat × Bk)} {P : List Int} (h : ¬ (writeR F O P x.1 x.2).cd = 0) : wrsR F (x :: L) O P = writeR F O P x.1 x.2 := by
  simp only [wrsR]; exact if_neg h
theorem wrsR_snoc (F : List Bk) (L : List (Nat × Bk)) (s : Nat) (y : Bk) : ∀ O P, wrsR F (L ++ [(s, y)]) O P = if (wrsR F L O P).cd = 0 then writeR F (wrsR F L O P).O (wrsR F L O P).P s y else wrsR F L O P := by
  induction L with
  | nil =>
    intro O P
    simp only [List.nil_append, wrsR, if_true]
    split
    · next h =>
      have hF := writeR_F F O P s y
      generalize writeR F O P s y = r at *
      obtain ⟨rF, rO, rP, rc⟩ := r
      simp only at hF h
      subst hF h
      rfl
    · rfl
  | cons x L ih =>
    intro O P
    rw [List.cons_append]
    by_cases h : (writeR F O P x.1 x.2).cd = 0
    · rw [wrsR_yes h, wrsR_yes h]
      exact ih _ _
    · rw [wrsR_no h, wrsR_no h, if_neg h]
theorem wrsR_app (F : List Bk) (L L' : List (Nat × Bk)) : ∀ O P, (wrsR F L O P).cd ≠ 0 → wrsR F (L ++ L') O P = wrsR F L O P := by
  induction L with
  | nil => intro O P h; exact absurd rfl h
  | cons x L ih =>
    intro O P
    rw [List.cons_append]
    by_cases h : (writeR F O P x.1 x.2).cd = 0
    · rw [wrsR_yes h, wrsR_yes h]
      exact ih _ _
    · rw [wrsR_no h, wrsR_no h]
      exact fun _ => rfl
theorem ckO_pre {base m k : Nat} (B : List Bk) (h : k ≤ m) : ∃ L', ckO base m B = ckO base k B ++ L' := by
  refine ⟨((List.range m).drop k).map (ckW base B), ?_⟩
  rw [ckO, ckO, ← List.map_append]
  congr 1
  rw [show List.range k = (List.range m).take k by rw [List.take_range, Nat.min_eq_left h]]
  exact (List.take_append_drop k _).symm
def PwI (T : Nat → Prop) (w5 : World) (b : Nat) (F : List Bk) (O : List (Nat × Bk)) (P : List Int) (base : Nat) {m : Nat} (B : List Bk) (pre : List { i : Nat // i < m }) (W : World) : Prop :=
  (wrsR F (pre.map (fun x => ckW base B x.1)) O P).cd = 0 ∧ Dv T W b F (wrsR F (pre.map (fun x => ckW base B x.1)) O P).O (wrsR F (pre.map (fun x => ckW base B x.1)) O P).P ∧ Upd T w5 W
def PwX (T : Nat → Prop) (w5 : World) (b : Nat) (F : List Bk) (O : List (Nat × Bk)) (P : List Int) (base : Nat) {m : Nat} (B : List Bk) (rb : Nat) (c : Code) (pre : List { i : Nat // i < m }) (W : World) : Prop :=
  c = .ret ∧ (wrsR F (pre.map (fun x => ckW base B x.1)) O P).cd ≠ 0 ∧ Dv T W b F (wrsR F (pre.map (fun x => ckW base B x.1)) O P).O (wrsR F (pre.map (fun x => ckW base B x.1)) O P).P ∧ Upd (fun j => T j ∨ j = rb) w5 W ∧
    W.heap[rb]? = some (.cells #[.int .i64 (wrsR F (pre.map (fun x => ckW base B x.1)) O P).cd] 28 (0, 0))
theorem pw_end {T : Nat → Prop} {S : Nat → Prop} {w w5 W W' : World} {b rb D : Nat} {F : List Bk} {O : List (Nat × Bk)} {P : List Int} (hrb : w.heap.size ≤ rb) (hD : w5.heap.size ≤ D) (_hw5 : w.heap.size ≤ w5.heap.size) (hrb5 : rb < w5.heap.size)
    (hT : T = fun j => (S j ∧ j < w.heap.size) ∨ w5.heap.size ≤ j) (hn : ∀ j, w.heap.size ≤ j → S j) (hU : Upd (fun _ => False) w w5) (hd : Dv T W b F O P) (hu : Upd (fun j => T j ∨ j = rb) w5 W) {v : Value}
    (hG : W.heap[rb]? = some (.cells #[v] 28 (0, 0))) (hK : W.heap[D]? = some (.deferred (some []))) (hW' : W' = W.putObj D (.deferred none)) :
    W'.cell? ⟨rb, 0, none⟩ = some v ∧ Dv S W' b F O P ∧ Upd S w W' := by
  have hDl := lt_of_block hK
  have hW := supd_b (S := fun j => w5.heap.size ≤ j) (M := w5.heap.size) (fun j h => h) W D _ (.deferred none) hD hK rfl rfl
  subst hW'
  refine ⟨cell_of_block ((hW.block _ (lt_of_block hG) (by omega)).trans hG) 0, ?_, ?_⟩
  · have h2 := hd.grown (grownBy_putObj' W D (.deferred none)) (fun r e => by cases e; exact ⟨_, hK, rfl⟩)
    exact h2.wide (fun j hj => by
      rw [hT] at hj
      rcases hj with hj | hj
      · exact hj.1
      · exact hn j (by omega))
  · have hX : Upd (fun j => T j ∨ j = rb ∨ w5.heap.size ≤ j) w5 (W.putObj D (.deferred none)) := (hu.mono (fun j _ h => h.imp id .inl)).trans (hW.mono (fun _ _ h => .inr (.inr h)))
    refine (hU.mono (fun _ _ h => h.elim)).new hX (fun i hi hs => ?_)
    rcases hs with hs | hs | hs
    · rw [hT] at hs
      rcases hs with hs | hs
      · exact hs.1
      · omega
    · omega
    · omega
set_option maxRecDepth 100000 in
set_option maxHeartbeats 4000000 in
theorem pwriteR {S : Nat → Prop} {w : World} {b : Nat} {F : List Bk} {O : List (Nat × Bk)} {P : List Int} (hd : Dv S w b F O P) (hn : ∀ j, w.heap.size ≤ j → S j) (base m seq : Nat) (lo : Option Addr) (n lc : Nat) (E : List Ent) (hEn : E.length = n) (hnm : needN n ≤ m) (hn1 : n ≤ 100000)
    (hbm : base + m ≤ F.length) (hO : O.length + m < 65536) (hbuild : ∀ W, Below w.heap.size w W → Calls Tryz.prog 191 #[.int .i64 (seq : Int), .slice lo n lc] W (BuildPost W seq E)) :
    Calls Tryz.prog 120 #[.pointer (some ⟨b, 0, none⟩), .int .i64 (base : Int), .int .i64 (m : Int), .int .i64 (seq : Int), .slice lo n lc] w (Out S w b (wrsR F (ckO base m (pagesB seq E)) O P)) := by
  subst hEn
  have hm1 : 1 ≤ m := by unfold needN at hnm; omega
  have hfl := hd.good.fl
  have q1 : decide (m < needN E.length) = false := by simp; omega
  obtain ⟨w2, hw2⟩ : ∃ w2, w2 = (w.alloc (.cells #[.pointer (some ⟨b, 0, none⟩)] 46)).alloc (.cells #[.int .i64 0] 28) := ⟨_, rfl⟩
  have hu2 : Upd (fun _ => False) w w2 := by rw [hw2]; exact ((Upd.refl _ w).alloc _).alloc _
  have hd2 := hd.new hu2
  have hb2 : Below w.heap.size w w2 := Upd.below hu2
  have hz2 : w2.heap.size = w.heap.size + 2 := by rw [hw2]; simp
  have hg0 : w2.heap[w.heap.size]? = some (.cells #[.pointer (some ⟨b, 0, none⟩)] 46) := by
    rw [hw2]; exact (Below.heap_alloc _ _ _ (by simp)).trans (heap_alloc_last w _ rfl)
  have hg1 : w2.heap[w.heap.size + 1]? = some (.cells #[.int .i64 0] 28) := by
    rw [hw2]; exact heap_alloc_last _ _ (by simp)
  have H := Lib.hid (And.intro hd (And.intro hn (And.intro True.intro (And.intro hnm (And.intro hbuild (And.intro hu2 (And.intro hd2 (And.intro hb2 (And.intro hz2 (And.intro hg0 hg1))))))))))
  clear hd hn hnm hbuild hu2 hb2 hz2 hg0 hg1
  refine (callsIn_wide (n := 3)).1 ?_
  refine callsIn_of_wp_marks Tryz.func120 rfl trivial ?_ rfl
  simp only [Tryz.ntmps120, List.size_toArray, List.length_cons, List.length_nil, Nat.reduceAdd, Nat.reduceSub, Array.replicate_succ, Array.replicate_zero, List.push_toArray, List.append_toArray, List.nil_append, List.cons_append]
  gi_wp2_with (first
    | (refine ⟨trivial, ?_⟩; gi_at_call 97; rw [← hw2]; refine (callsIn_wide.2 (there1 hd2 base m hm1 hbm)).mono ?_; rintro e w' ⟨rfl, rfl⟩)
    | (refine ⟨trivial, ?_⟩; gi_at_call 54; refine (callsIn_wide.2 (need_nat E.length hn1 _)).mono ?_; rintro e w' ⟨rfl, rfl⟩)
    | fail)
  refine ⟨trivial, ?_⟩
  rw [← hw2]
  refine (callsIn_wide.2 (H.out.2.2.2.2.1 w2 H.out.2.2.2.2.2.2.2.1)).mono ?_
  rintro e w3 ⟨vB, rfl, hslB, hfB, hbB⟩
  obtain ⟨ao, cc, rfl⟩ := hslB.rd.nil_iff
  have hu23 : Upd (fun _ => False) w2 w3 := Upd.of_below hbB
  obtain ⟨w4, hw4⟩ : ∃ w4, w4 = w3.alloc (.cells #[.slice ao (needN E.length) cc] 41) := ⟨_, rfl⟩
  have hu34 : Upd (fun _ => False) w3 w4 := by rw [hw4]; exact (Upd.refl _ w3).alloc _
  have hg2 : w4.heap[w3.heap.size]? = some (.cells #[.slice ao (needN E.length) cc] 41) := by rw [hw4]; exact heap_alloc_last w3 _ rfl
  have hz4 : w4.heap.size = w3.heap.size + 1 := by rw [hw4]; simp
  have H3 := Lib.hid (And.intro hslB (And.intro hfB (And.intro hu23 (And.intro hu34 (And.intro hg2 hz4)))))
  clear hslB hfB hbB hu23 hu34 hg2 hz4 hw2 q1 hd2
  gi_wp2_with (first
    | (refine ⟨trivial, ?_⟩; gi_at_call 98; rw [← hw4]; refine (callsIn_wide.2 (sectors_any (base : Int) (m : Int) w4)).mono ?_; rintro e w5 ⟨rfl, hw5⟩)
    | fail)
  have hu45 : Upd (fun _ => False) w4 w5 := by rw [hw5]; exact ((Upd.refl _ w4).alloc _).alloc _
  have hz5 : w5.heap.size = w4.heap.size + 2 := by rw [hw5]; simp
  have hcb : w5.cell? ⟨w4.heap.size, 0, none⟩ = some (.int .i64 (base : Int)) := by
    rw [hw5]; exact (cell_of_block ((Below.heap_alloc _ _ _ (by simp)).trans (heap_alloc_last w4 _ rfl)) 0)
  have hcm : w5.cell? ⟨w4.heap.size + 1, 0, none⟩ = some (.int .i64 (m : Int)) := by
    rw [hw5]; exact (cell_of_block (heap_alloc_last _ _ (by simp)) 0)
  obtain ⟨hd, hn, -, hnm, hbuild, hu2, hd2, hb2, hz2, hg0, hg1⟩ := H.out
  obtain ⟨hslB, hfB, hu23, hu34, hg2, hz4⟩ := H3.out
  have hu25 : Upd (fun _ => False) w2 w5 := (hu23.trans hu34).trans hu45
  have hs3 := hu23.size
  obtain ⟨T, hT⟩ : ∃ T : Nat → Prop, T = fun j => (S j ∧ j < w.heap.size) ∨ w5.heap.size ≤ j := ⟨_, rfl⟩
  have hTn : ∀ j, w5.heap.size ≤ j → T j := fun j hj => by rw [hT]; exact .inr hj
  have hTo : ∀ j, w.heap.size ≤ j → j < w5.heap.size → ¬ T j := fun j h1 h2 h => by rw [hT] at h; rcases h with h | h <;> omega
  have hd5 : Dv T w5 b F O P := ((hd.shrink (T := fun j => S j ∧ j < w.heap.size) (fun j h1 h2 => ⟨h1, h2⟩)).new (hu2.trans hu25)).wide (fun j h => by rw [hT]; exact .inl h)
  have hG0 := hu25.blockv hg0
  have hG1 := hu25.blockv hg1
  have hG2 := hu45.blockv hg2
  have hsl5 := hslB.keep (hu34.trans hu45) (fun _ _ h => h)
  have HU := Lib.hid (hu2.trans hu25)
  have H5 := Lib.hid (And.intro hd5 (And.intro hTn (And.intro hTo (And.intro hG0 (And.intro hG1 (And.intro hG2 (And.intro hsl5 hT)))))))
  have b64 := pagesTo_64 seq E (needN E.length)
  clear hd hn hnm hbuild hu2 hd2 hb2 hg0 hg1 hslB hu23 hu34 hu45 hg2 hu25 hd5 hG0 hG1 hG2 hsl5 hT
  rw [← hw4, ← hw5]
  rw [hz4] at hcb hcm
  clear hw4 hw5
  refine' wpIn_rangeFunc_ownF rfl (by omega) (gf := 171) (lb := #[.pointer (some ⟨w3.heap.size + 1 + 1, 0, none⟩), .pointer (some ⟨w3.heap.size + 1, 0, none⟩)]) rfl trivial (enters_of Tryz.func171 (by kernel_rfl) rfl)
    (sec_stops _ (by omega) T (w3.heap.size + 1 + 1) (w3.heap.size + 1) base m w5 (by omega) (by omega) (by omega) (by omega) (hTo _ (by omega) (by omega)) (hTo _ (by omega) (by omega)) hcm hcb) supd_t (fun W l o o' hl => supd_b (M := w5.heap.size) hTn W l o o' hl) (Below.refl _ _) (fun _ => rfl)
    (PwI T w5 b F O P base (pagesB seq E))
    (PwX T w5 b F O P base (pagesB seq E) (w.heap.size + 1))
    (fun pre X Y row hs hg hr => ⟨hs.1, hs.2.1.grown hg (fun r e => (hr r e).2), upd_grown hs.2.2 hg (fun r e => hTn r (hr r e).1)⟩)
    (fun cc pre X Y row hs hg hr => ⟨hs.1, hs.2.1, hs.2.2.1.grown hg (fun r e => (hr r e).2), upd_grown hs.2.2.2.1 hg (fun r e => .inl (hTn r (hr r e).1)), (grownBy_keeps_cells hg (fun r e => (hr r e).2) hs.2.2.2.2 rfl).trans hs.2.2.2.2⟩)
    ⟨rfl, H5.out.1, Upd.refl _ _⟩
    _ ?assign ?body ?done ?stop
  case assign =>
    intro l x W K hK
    gi_wp2
    exact hK
  case body =>
    rintro l pre ⟨i, hi⟩ W ⟨hcd, hv, hu⟩ hlt
    obtain ⟨-, -, -, hG0, hG1, hG2, hsl5, -⟩ := H5.out
    have hG0 := (hu.block _ (lt_of_block hG0) (hTo _ (by omega) (by omega))).trans hG0
    have hG1 := (hu.block _ (lt_of_block hG1) (hTo _ (by omega) (by omega))).trans hG1
    have hG2 := (hu.block _ (lt_of_block hG2) (hTo _ (by omega) (by omega))).trans hG2
    have hsl := hsl5.keep hu (fun j hj => hTo j (by have := hfB j hj; omega) (hsl5.lt hj))
    have c0 : W.cell? ⟨w.heap.size, 0, none⟩ = some (.pointer (some ⟨b, 0, none⟩)) := cell_of_block hG0 0
    have c2 : W.cell? ⟨w3.heap.size, 0, none⟩ = some (.slice ao (needN E.length) cc) := cell_of_block hG2 0
    have hl0 := lt_of_block hG0
    have hl2 := lt_of_block hG2
    obtain ⟨y, hy⟩ : ∃ y, y = (pagesB seq E).getD i zB := ⟨_, rfl⟩
    have hyl : (bkC y).length = 64 := by
      rw [bkC_len, hy]
      by_cases h : i < (pagesB seq E).length
      · rw [List.getD_eq_getElem?_getD, List.getElem?_eq_getElem h]; exact b64 _ (List.getElem_mem h)
      · rw [List.getD_eq_getElem?_getD, List.getElem?_eq_none (by omega)]; rfl
    have hy64 : Hid ((Tryz.prog.info? 54).map (·.size) = some (bkC y).length) := by show _ = _; rw [hyl]; exact sizeBk'
    have hrO := wrsR_O F (pre.map (fun x => ckW base (pagesB seq E) x.1)) O P
    rw [List.length_map] at hrO
    have hsn := wrsR_snoc F (pre.map (fun x => ckW base (pagesB seq E) x.1)) (base + i) y O P
    rw [if_pos hcd] at hsn
    have hpm : (pre ++ [(⟨i, hi⟩ : { i : Nat // i < m })]).map (fun x => ckW base (pagesB seq E) x.1) = pre.map (fun x => ckW base (pagesB seq E) x.1) ++ [(base + i, y)] := by
      rw [List.map_append, hy]; rfl
    rw [← hpm] at hsn
    generalize wrsR F (pre.map (fun x => ckW base (pagesB seq E) x.1)) O P = r0 at *
    obtain ⟨rF, rO, rP, rc⟩ := r0
    simp only at hcd hv hrO hsn
    obtain ⟨S0, h0, hs0, hcs0⟩ := hv.exact
    obtain ⟨W1, hW1⟩ : ∃ W1, W1 = W.alloc (.cells (bkC y).toArray 54) := ⟨_, rfl⟩
    have hu1 : Upd (fun _ => False) W W1 := by rw [hW1]; exact (Upd.refl _ W).alloc _
    have hg1 : W1.heap[W.heap.size]? = some (.cells (bkC y).toArray 54) := by rw [hW1]; exact heap_alloc_last W _ rfl
    have rA := range_of_block hg1
    have hz1 : W1.heap.size = W.heap.size + 1 := by rw [hW1]; simp
    have hwr := dwriteR (S := fun j => S0 j ∨ W1.heap.size ≤ j) ((h0.new hu1).wide (fun _ h => .inl h)) (fun _ h => .inr h) (base + i) (by omega) y (by rw [← bkC_len]; exact hyl) (by omega)
    have hR : writeR F rO rP (base + i) y = writeR F rO rP (base + i) y := rfl
    have hRF := writeR_F F rO rP (base + i) y
    generalize hrr : writeR F rO rP (base + i) y = r at *
    clear hR
    have HB := Lib.hid (And.intro hv (And.intro hu (And.intro hsl (And.intro hy (And.intro hyl (And.intro h0 (And.intro hs0 (And.intro hcs0 (And.intro hW1 (And.intro hu1 hz1))))))))))
    have HG1 := Lib.hid (And.intro hG1 (And.intro hsn hRF))
    have c10 : W1.cell? ⟨w.heap.size, 0, none⟩ = some (.pointer (some ⟨b, 0, none⟩)) := hu1.cellv c0 (fun h => h)
    have HW := Lib.hid (And.intro hwr c10)
    clear hv hu hsl hG0 hG1 hG2 hsl5 hy hyl h0 hs0 hcs0 hu1 hg1 hwr hz1 c10 hcd hrO hsn hpm hrr hRF
    clear hG0 hG1 hG2
    rw [hW1] at rA
    obtain ⟨rcd, hrcd⟩ : ∃ rcd, rcd = r.cd := ⟨_, rfl⟩
    replace hrcd := Lib.hid hrcd
    by_cases hlt2 : i < needN E.length
    · obtain ⟨g, off, cap, cur, e1, hg, hz, hc⟩ := HB.out.2.2.1.at (by omega)
      cases e1
      have hBl : (pagesB seq E).length = needN E.length := pagesTo_len _ _ _
      have hr := row_range (F := pagesB seq E) b64 hg hc (i := i) (by omega)
      have hyi : (pagesB seq E)[i]'(by omega) = y := by rw [HB.out.2.2.2.1, List.getD_eq_getElem?_getD, List.getElem?_eq_getElem (by omega)]; rfl
      rw [hyi] at hr
      have hr2 := World.rangeAt_alloc hr (.cells (bkC zB).toArray 54)
      clear hg hz hc hyi hr
      gi_wp2_with (first
        | (refine wpListIn_load_mid rfl _ _ rfl _ _ rfl _ _ hr2 Tryz.underlying54 rfl hy64.out ?_)
        | (refine wpListIn_load_mid rfl _ _ rfl _ _ rfl _ _ rA Tryz.underlying54 rfl hy64.out ?_)
        | (refine wpListIn_store_new rfl _ _ _ rfl _ _ _ rfl rfl (by rw [HB.out.2.2.2.2.1]; rfl) hy64.out (bkC_one y) ?_)
        | fail)
      refine ⟨trivial, ?_⟩
      rw [show ((base : Int) + (i : Int)) = ((base + i : Nat) : Int) by simp, ← hW1]
      clear hW1 rA c0 c2
      refine (CallsIn.inRound l (callsIn_wide.2 HW.out.1)).mono ?_
      rintro e W2 ⟨rfl, hd2, hu2⟩
      have hl1 : w.heap.size + 1 < W2.heap.size := by have := hu2.size; have := lt_of_block HG1.out.1; have := HB.out.2.2.2.2.2.2.2.2.2.2; omega
      have hG1' : W2.heap[w.heap.size + 1]? = some (.cells #[.int .i64 0] 28) := by
        have hG1 := HG1.out.1
        have hl := lt_of_block hG1
        refine (hu2.block _ (by have := HB.out.2.2.2.2.2.2.2.2.2.2; omega) (fun hs => ?_)).trans (HB.out.2.2.2.2.2.2.2.2.2.1.blockv hG1)
        rcases hs with hs | hs
        · exact hTo _ (by omega) (by omega) (HB.out.2.2.2.2.2.2.1 _ hs)
        · have := HB.out.2.2.2.2.2.2.2.2.2.2; omega
      have f1 := frozen_of_block hG1' 0
      have c1' := cell_of_block hG1' 0
      have HD := Lib.hid (And.intro hd2 (And.intro hu2 hG1'))
      clear hd2 hu2 hG1'
      rw [← hrcd.out]
      by_cases hc : rcd = 0
      · have HZ := Lib.hid (hc ▸ hrcd.out : 0 = r.cd)
        subst hc
        gi_wp2
        obtain ⟨hv, hu, hsl, hy, hyl, h0, hs0, hcs0, hW1, hu1, hz1⟩ := HB.out
        obtain ⟨hd2, hu2, hG1'⟩ := HD.out
        have hsz := hu.size
        have hK1 : KeepsOthers W W1 := by rw [hW1]; exact KeepsOthers.alloc W _
        have hT2 : Upd T W W2 := (hu1.mono (fun _ _ h => h.elim)).trans (hu2.mono (fun j _ hj => hj.elim (fun h => hs0 j h) (fun h => hTn j (by omega))))
        refine ⟨hK1.trans (keepsOthers_cells hu2 (fun j hj hl => ?_)), hT2, ?_, ?_, hu.trans hT2⟩
        · rcases hj with hj | hj
          · obtain ⟨cs, t, z, hc⟩ := hcs0 j hj
            exact ⟨cs, t, z, hu1.blockv hc⟩
          · omega
        · rw [HG1.out.2.1]; exact HZ.out.symm
        · rw [HG1.out.2.1]
          have := hd2.wide (T := T) (fun j hj => hj.elim (fun h => hs0 j h) (fun h => hTn j (by omega)))
          rw [HG1.out.2.2] at this
          exact this
      · have q0 : (rcd == 0) = false := by simpa using hc
        gi_wp2
        obtain ⟨hv, hu, hsl, hy, hyl, h0, hs0, hcs0, hW1, hu1, hz1⟩ := HB.out
        obtain ⟨hd2, hu2, hG1'⟩ := HD.out
        have hsz := hu.size
        have hK1 : KeepsOthers W W1 := by rw [hW1]; exact KeepsOthers.alloc W _
        have hT2 : Upd T W W2 := (hu1.mono (fun _ _ h => h.elim)).trans (hu2.mono (fun j _ hj => hj.elim (fun h => hs0 j h) (fun h => hTn j (by omega))))
        have hus := upd_setCell W2 (w.heap.size + 1) 0 (.int .i64 rcd)
        have hne : ¬ T (w.heap.size + 1) := hTo _ (by omega) (by have := H5.out.2.2.2.2.1; have := lt_of_block this; omega)
        refine ⟨(hK1.trans (keepsOthers_cells hu2 (fun j hj hl => ?_))).trans (keepsOthers_cells hus (fun j hj _ => ⟨_, _, _, hj ▸ hG1'⟩)), rfl, ?_, ?_, ?_, ?_⟩
        · rcases hj with hj | hj
          · obtain ⟨cs, t, z, hc⟩ := hcs0 j hj
            exact ⟨cs, t, z, hu1.blockv hc⟩
          · omega
        · rw [HG1.out.2.1, ← hrcd.out]; exact hc
        · rw [HG1.out.2.1]
          have := hd2.wide (T := T) (fun j hj => hj.elim (fun h => hs0 j h) (fun h => hTn j (by omega)))
          rw [HG1.out.2.2] at this
          exact this.keep hus (fun j hj e => hne (e ▸ hj))
        · exact ((hu.trans hT2).mono (fun _ _ h => .inl h)).trans (hus.mono (fun _ _ h => .inr h))
        · rw [HG1.out.2.1, ← hrcd.out]
          exact heap_setCell_same hG1' 0 (.int .i64 rcd)
    · have hyz : y = zB := by
        have hBl : (pagesB seq E).length = needN E.length := pagesTo_len _ _ _
        rw [HB.out.2.2.2.1, List.getD_eq_getElem?_getD, List.getElem?_eq_none (by omega)]; rfl
      gi_wp2_with fail
      rw [zlit, ← hyz]
      clear hyz
      refine wpIn_load_mid _ _ rfl _ _ rfl _ _ rA Tryz.underlying54 rfl hy64.out ?_
      gi_wp2_with fail
      refine ⟨trivial, ?_⟩
      rw [show ((base : Int) + (i : Int)) = ((base + i : Nat) : Int) by simp, ← hW1]
      clear hW1 rA c0 c2
      refine (CallsIn.inRound l (callsIn_wide.2 HW.out.1)).mono ?_
      rintro e W2 ⟨rfl, hd2, hu2⟩
      have hl1 : w.heap.size + 1 < W2.heap.size := by have := hu2.size; have := lt_of_block HG1.out.1; have := HB.out.2.2.2.2.2.2.2.2.2.2; omega
      have hG1' : W2.heap[w.heap.size + 1]? = some (.cells #[.int .i64 0] 28) := by
        have hG1 := HG1.out.1
        have hl := lt_of_block hG1
        refine (hu2.block _ (by have := HB.out.2.2.2.2.2.2.2.2.2.2; omega) (fun hs => ?_)).trans (HB.out.2.2.2.2.2.2.2.2.2.1.blockv hG1)
        rcases hs with hs | hs
        · exact hTo _ (by omega) (by omega) (HB.out.2.2.2.2.2.2.1 _ hs)
        · have := HB.out.2.2.2.2.2.2.2.2.2.2; omega
      have f1 := frozen_of_block hG1' 0
      have c1' := cell_of_block hG1' 0
      have HD := Lib.hid (And.intro hd2 (And.intro hu2 hG1'))
      clear hd2 hu2 hG1'
      rw [← hrcd.out]
      by_cases hc : rcd = 0
      · have HZ := Lib.hid (hc ▸ hrcd.out : 0 = r.cd)
        subst hc
        gi_wp2
        obtain ⟨hv, hu, hsl, hy, hyl, h0, hs0, hcs0, hW1, hu1, hz1⟩ := HB.out
        obtain ⟨hd2, hu2, hG1'⟩ := HD.out
        have hsz := hu.size
        have hK1 : KeepsOthers W W1 := by rw [hW1]; exact KeepsOthers.alloc W _
        have hT2 : Upd T W W2 := (hu1.mono (fun _ _ h => h.elim)).trans (hu2.mono (fun j _ hj => hj.elim (fun h => hs0 j h) (fun h => hTn j (by omega))))
        refine ⟨hK1.trans (keepsOthers_cells hu2 (fun j hj hl => ?_)), hT2, ?_, ?_, hu.trans hT2⟩
        · rcases hj with hj | hj
          · obtain ⟨cs, t, z, hc⟩ := hcs0 j hj
            exact ⟨cs, t, z, hu1.blockv hc⟩
          · omega
        · rw [HG1.out.2.1]; exact HZ.out.symm
        · rw [HG1.out.2.1]
          have := hd2.wide (T := T) (fun j hj => hj.elim (fun h => hs0 j h) (fun h => hTn j (by omega)))
          rw [HG1.out.2.2] at this
          exact this
      · have q0 : (rcd == 0) = false := by simpa using hc
        gi_wp2
        obtain ⟨hv, hu, hsl, hy, hyl, h0, hs0, hcs0, hW1, hu1, hz1⟩ := HB.out
        obtain ⟨hd2, hu2, hG1'⟩ := HD.out
        have hsz := hu.size
        have hK1 : KeepsOthers W W1 := by rw [hW1]; exact KeepsOthers.alloc W _
        have hT2 : Upd T W W2 := (hu1.mono (fun _ _ h => h.elim)).trans (hu2.mono (fun j _ hj => hj.elim (fun h => hs0 j h) (fun h => hTn j (by omega))))
        have hus := upd_setCell W2 (w.heap.size + 1) 0 (.int .i64 rcd)
        have hne : ¬ T (w.heap.size + 1) := hTo _ (by omega) (by have := H5.out.2.2.2.2.1; have := lt_of_block this; omega)
        refine ⟨(hK1.trans (keepsOthers_cells hu2 (fun j hj hl => ?_))).trans (keepsOthers_cells hus (fun j hj _ => ⟨_, _, _, hj ▸ hG1'⟩)), rfl, ?_, ?_, ?_, ?_⟩
        · rcases hj with hj | hj
          · obtain ⟨cs, t, z, hc⟩ := hcs0 j hj
            exact ⟨cs, t, z, hu1.blockv hc⟩
          · omega
        · rw [HG1.out.2.1, ← hrcd.out]; exact hc
        · rw [HG1.out.2.1]
          have := hd2.wide (T := T) (fun j hj => hj.elim (fun h => hs0 j h) (fun h => hTn j (by omega)))
          rw [HG1.out.2.2] at this
          exact this.keep hus (fun j hj e => hne (e ▸ hj))
        · exact ((hu.trans hT2).mono (fun _ _ h => .inl h)).trans (hus.mono (fun _ _ h => .inr h))
        · rw [HG1.out.2.1, ← hrcd.out]
          exact heap_setCell_same hG1' 0 (.int .i64 rcd)
  case done =>
    rintro D ys W hD hys ⟨hcd, hv, hu⟩ hK
    obtain ⟨-, -, -, -, hG1, -, -, hT⟩ := H5.out
    have hG1 := (hu.block _ (lt_of_block hG1) (hTo _ (by omega) (by omega))).trans hG1
    have c1 := cell_of_block hG1 0
    have f1 := frozen_of_block hG1 0
    have hyO : (ckO base m (pagesB seq E)) = ys.map (fun x => ckW base (pagesB seq E) x.1) := by
      rw [ckO, ← hys, List.map_map]; rfl
    rw [← hyO] at hcd hv
    have hF := wrsR_F F (ckO base m (pagesB seq E)) O P
    generalize wrsR F (ckO base m (pagesB seq E)) O P = r at *
    have HV := Lib.hid (And.intro hv (And.intro hu (And.intro hcd (And.intro hK (And.intro hG1 (And.intro hT hF))))))
    have hl1 := lt_of_block hG1
    clear hv hu hyO hG1 hT hcd hF
    gi_wp2
    obtain ⟨hv, hu, hcd, hK, hG1, hT, hF⟩ := HV.out
    have hus := upd_setCell W (w.heap.size + 1) 0 (.int .i64 0)
    have hK2 : (W.setCell ⟨w.heap.size + 1, 0, none⟩ (.int .i64 0)).heap[D]? = some (.deferred (some [])) := (hus.block D (lt_of_block hK) (by omega)).trans hK
    have hG2 := heap_setCell_same hG1 0 (.int .i64 0)
    refine ⟨by simp, .inl ⟨_, _, rfl, run_takeDeferred hK2, ?_⟩⟩
    have h1 := hv.keep hus (fun j hj e => hTo j (by omega) (by omega) hj)
    obtain ⟨e1, e2, e3⟩ := pw_end (rb := w.heap.size + 1) (by omega) hD (by omega) (by omega) hT H.out.2.1 HU.out h1 ((hu.mono (fun _ _ h => .inl h)).trans (hus.mono (fun _ _ h => .inr h))) hG2 hK2 rfl
    refine ⟨.int .i64 0, by simp [results, Tryz.results120, go_sem, e1], ?_, ?_, e3⟩
    · rw [hcd]
    · rw [hF]; exact e2
  case stop =>
    rintro D c pre W hD hpre ⟨rfl, hcd, hv, hu, hG⟩ hK
    have hT := H5.out.2.2.2.2.2.2.2
    have hk : pre.length ≤ m := by
      refine Decidable.byContradiction fun hlt => ?_
      have hm' : m ∈ pre.map (·.1) := by rw [hpre]; exact List.mem_range.2 (by omega)
      obtain ⟨x, -, hx⟩ := List.mem_map.1 hm'
      have := x.2
      omega
    obtain ⟨L', hL'⟩ := ckO_pre (base := base) (pagesB seq E) hk
    have hyO : (ckO base pre.length (pagesB seq E)) = pre.map (fun x => ckW base (pagesB seq E) x.1) := by
      rw [ckO, ← hpre, List.map_map]; rfl
    have hfull : wrsR F (ckO base m (pagesB seq E)) O P = wrsR F (pre.map (fun x => ckW base (pagesB seq E) x.1)) O P := by
      rw [hL', hyO]; exact wrsR_app _ _ _ _ _ hcd
    have hF := wrsR_F F (ckO base m (pagesB seq E)) O P
    rw [← hfull] at hcd hv hG
    generalize wrsR F (ckO base m (pagesB seq E)) O P = r at *
    clear hfull
    obtain ⟨e1, e2, e3⟩ := pw_end (rb := w.heap.size + 1) (by omega) hD (by omega) (by omega) hT H.out.2.1 HU.out hv hu hG hK rfl
    clear hv hu hG
    gi_wp2
    refine ⟨by simp, .inl ⟨_, _, rfl, run_takeDeferred hK, ?_⟩⟩
    refine ⟨.int .i64 r.cd, by simp [results, Tryz.results120, go_sem, e1], rfl, ?_, e3⟩
    rw [hF]; exact e2
end Go.Proofs.YtfhfbpmlnjdfoaaGreatDoor
namespace Go.Proofs.YtfhfbpmlnjdfoaaGreatDoor
open Go Go.RowKit
def saveR (F : List Bk) (O : List (Nat × Bk)) (P : List Int) (L : List (Nat × Bk)) : DRes :=
  if (wrsR F L O P).cd = 0 then flushR F (wrsR F L O P).O (wrsR F L O P).P else wrsR F L O P
theorem saveR_len (F : List Bk) (O : List (Nat × Bk)) (P : List Int) (L : List (Nat × Bk)) : (saveR F O P L).F.length = F.length := by
  unfold saveR
  split
  · unfold flushR; repeat' split
    all_goals simp [flushF_len]
  · rw [wrsR_F]
set_option maxHeartbeats 1000000 in
theorem psaveR {S : Nat → Prop} {w : World} {b : Nat} {F : List Bk} {O : List (Nat × Bk)} {P : List Int} (hd : Dv S w b F O P) (hn : ∀ j, w.heap.size ≤ j → S j) (base m seq wh : Nat) (hwh : wh ≤ 1) (lo : Option Addr) (n lc : Nat) (E : List Ent) (hEn : E.length = n) (hnm : needN n ≤ m) (hn1 : n ≤ 100000)
    (hbm : base + m + m ≤ F.length) (hO : O.length + m < 65536) (hbuild : ∀ W, Below w.heap.size w W → Calls Tryz.prog 191 #[.int .i64 (seq : Int), .slice lo n lc] W (BuildPost W seq E)) :
    Calls Tryz.prog 60 #[.pointer (some ⟨b, 0, none⟩), .int .i64 (base : Int), .int .i64 (m : Int), .int .i64 (wh : Int), .int .i64 (seq : Int), .slice lo n lc] w (Out S w b (saveR F O P (ckO (base + wh * m) m (pagesB seq E)))) := by
  have hfl := hd.good.fl
  have hW := pwriteR hd hn (base + wh * m) m seq lo n lc E hEn hnm hn1 (by rcases (show wh = 0 ∨ wh = 1 by omega) with rfl | rfl <;> omega) hO hbuild
  have hrF := wrsR_F F (ckO (base + wh * m) m (pagesB seq E)) O P
  obtain ⟨R, hR⟩ : ∃ R, R = saveR F O P (ckO (base + wh * m) m (pagesB seq E)) := ⟨_, rfl⟩
  rw [← hR]
  unfold saveR at hR
  generalize wrsR F (ckO (base + wh * m) m (pagesB seq E)) O P = r at *
  have HW := Lib.hid hW
  have HH := Lib.hid (And.intro hn (And.intro hR hrF))
  obtain ⟨rcd, hrcd⟩ : ∃ rcd, rcd = r.cd := ⟨_, rfl⟩
  replace hrcd := Lib.hid hrcd
  clear hd hn hEn hnm hn1 hO hbuild hW hrF hR
  rcases (show wh = 0 ∨ wh = 1 by omega) with rfl | rfl
  · simp only [Nat.zero_mul, Nat.add_zero, Int.natCast_zero] at *
    go_enter Tryz.func60, Tryz.ntmps60
    go_wp2_with fail
    refine HW.out.mono ?_
    rintro e w2 ⟨rfl, hd2, hu2⟩
    rw [HH.out.2.2] at hd2
    rw [← hrcd.out]
    have HF := Lib.hid (And.intro (dflushR hd2 (fun j hj => HH.out.1 j (by have := hu2.size; omega))) (And.intro hu2 hd2))
    clear hd2 hu2
    by_cases hc : rcd = 0
    · have HZ := Lib.hid (hc ▸ hrcd.out : 0 = r.cd)
      subst hc
      go_wp2_with fail
      refine HF.out.1.mono ?_
      rintro e w3 ⟨rfl, hd3, hu3⟩
      have HE := Lib.hid (And.intro hd3 hu3)
      have HR := HH.out.2.1
      rw [if_pos HZ.out.symm] at HR
      rw [← HR] at HE ⊢
      replace HR := Lib.hid HR
      clear hd3 hu3
      go_wp2
      go_ret
      exact ⟨rfl, HE.out.1, HF.out.2.1.trans HE.out.2⟩
    · have q0 : (rcd == 0) = false := by simpa using hc
      have HZ := Lib.hid hc
      go_wp2
      go_ret
      have HR := HH.out.2.1
      rw [if_neg (by rw [← hrcd.out]; exact HZ.out)] at HR
      rw [HR, hrcd.out]
      refine ⟨rfl, ?_, HF.out.2.1⟩
      rw [HH.out.2.2]
      exact HF.out.2.2
  · simp only [Nat.one_mul, Int.natCast_one] at *
    have e1 : ((base : Int) + (m : Int)) = ((base + m : Nat) : Int) := by simp
    rw [← e1] at HW
    clear e1
    go_enter Tryz.func60, Tryz.ntmps60
    go_wp2_with fail
    refine HW.out.mono ?_
    rintro e w2 ⟨rfl, hd2, hu2⟩
    rw [HH.out.2.2] at hd2
    rw [← hrcd.out]
    have HF := Lib.hid (And.intro (dflushR hd2 (fun j hj => HH.out.1 j (by have := hu2.size; omega))) (And.intro hu2 hd2))
    clear hd2 hu2
    by_cases hc : rcd = 0
    · have HZ := Lib.hid (hc ▸ hrcd.out : 0 = r.cd)
      subst hc
      go_wp2_with fail
      refine HF.out.1.mono ?_
      rintro e w3 ⟨rfl, hd3, hu3⟩
      have HE := Lib.hid (And.intro hd3 hu3)
      have HR := HH.out.2.1
      rw [if_pos HZ.out.symm] at HR
      rw [← HR] at HE ⊢
      replace HR := Lib.hid HR
      clear hd3 hu3
      go_wp2
      go_ret
      exact ⟨rfl, HE.out.1, HF.out.2.1.trans HE.out.2⟩
    · have q0 : (rcd == 0) = false := by simpa using hc
      have HZ := Lib.hid hc
      go_wp2
      go_ret
      have HR := HH.out.2.1
      rw [if_neg (by rw [← hrcd.out]; exact HZ.out)] at HR
      rw [HR, hrcd.out]
      refine ⟨rfl, ?_, HF.out.2.1⟩
      rw [HH.out.2.2]
      exact HF.out.2.2
end Go.Proofs.YtfhfbpmlnjdfoaaGreatDoor
namespace Go.Proofs.YtfhfbpmlnjdfoaaGreatDoor
open Go Go.RowKit Go.Shelf
attribute [local go_sem] Oper.semAt_some
set_option maxRecDepth 100000 in
set_option maxHeartbeats 2000000 in
theorem it_inM (n : Nat) (hn : 2 ≤ n) (S : Nat → Prop) (l Bs Bp b off cap : Nat) (qs : List (Int × Bool)) (fr : Nat)
    (hle : qs.length ≤ 4096) (hfr : fr ≤ 4096) (hgood : ∀ k (h : k < qs.length), qs[k] = (-1, false) ∨ 0 ≤ qs[k].1) (hb : ¬ S b) (hBp : ¬ S Bp) (J Jx : List It9 → World → Prop) (B0 : Nat) (hJ : AbidesFrom B0 J)
    (hY : ∀ pre (x : It9) W, J pre W → pre ++ [x] <+: vis qs fr → YieldAt Fence.wide (n - 1) Tryz.prog l (enc9 x) W fun e W' =>
      (e = .returned (.bool true) ∧ J (pre ++ [x]) W' ∧ Upd S W W') ∨ (e = .returned (.bool false) ∧ Jx (pre ++ [x]) W'))
    (W : World) (hbW : b < W.heap.size) (hBpW : Bp < W.heap.size) (hBs : W.cell? ⟨Bs, 0, none⟩ = some (.slice (some ⟨b, off, none⟩) qs.length cap)) (hcp : W.cell? ⟨Bp, 0, none⟩ = some (.int .i64 fr))
    (hc : ∀ j (h : j < qs.length), W.cell? ⟨b, off + j * 2, none⟩ = some (.int .i64 qs[j].1) ∧ W.cell? ⟨b, off + j * 2 + 1, none⟩ = some (.bool qs[j].2)) (h0 : J [] W) :
    CallsIn Fence.wide n Tryz.prog 217 #[.func (.yield l) #[] #[], .pointer (some ⟨Bs, 0, none⟩), .pointer (some ⟨Bp, 0, none⟩)] W fun e W' => (∃ v, e = .returned v) ∧
      ((∃ ys, ys = vis qs fr ∧ J ys W') ∨ (∃ pre, pre <+: vis qs fr ∧ Jx pre W')) := by
  have hmix : Tryz.prog.follows .mixedOrders = true := by kernel_rfl
  refine callsIn_of_wp Tryz.func217 rfl trivial ?_ rfl
  simp only [Tryz.ntmps217, List.size_toArray, List.length_cons, List.length_nil, Nat.reduceAdd, Nat.reduceSub, Array.replicate_succ, Array.replicate_zero, List.push_toArray, List.append_toArray, List.nil_append, List.cons_append]
  gi_wp2
  refine wpIn_wide.2 (wp_scope_straight (wpIn_wide (n := n).1 (wpIn_seq (wpIn_label ?_))))
  gi_wp2
  gi_loopw [8] (fun i wr => ∃ k : Nat, k ≤ qs.length ∧ i = .int .i64 k ∧ J (visTo qs fr k) wr ∧ Upd S W wr)
    (fun i _ => qs.length - (intOf i).toNat)
  case atStart => exact ⟨0, Nat.zero_le _, rfl, h0, Upd.refl _ _⟩
  case round =>
    obtain ⟨k, hk, rfl, hJs, hnx⟩ := hrel
    have hct' : wr.cell? ⟨Bp, 0, none⟩ = some (.int .i64 fr) := (hnx.cellAt hBpW hBp).trans hcp
    by_cases hlt : k < qs.length
    · have hc0 : wr.cell? ⟨b, off + k * 2, none⟩ = some (.int .i64 qs[k].1) := (hnx.cellAt hbW hb).trans (hc k hlt).1
      have hc1 : wr.cell? ⟨b, off + k * 2 + 1, none⟩ = some (.bool qs[k].2) := (hnx.cellAt hbW hb).trans (hc k hlt).2
      by_cases hq : qs[k] = (-1, false)
      · have HM : Hid (visTo qs fr (k + 1) = visTo qs fr k) := visTo_miss hlt hq
        rw [hq] at hc0 hc1
        clear hq
        have HP0 : Hid ((wr.alloc (.cells #[.int .i64 (-1), .bool false] 95)).drew.cell? ⟨wr.heap.size, 0, none⟩ = some (.int .i64 (-1))) := cell_of_block (heap_alloc_last wr _ rfl) 0
        have HP1 : Hid ((wr.alloc (.cells #[.int .i64 (-1), .bool false] 95)).drew.cell? ⟨wr.heap.size, 1, none⟩ = some (.bool false)) := cell_of_block (heap_alloc_last wr _ rfl) 1
        gi_wp2
        gi_region_with_o (first | refine ⟨trivial, fun _ => by omega, ?_⟩ | skip; gi_at_call 173; refine (callsIn_wide.2 (nowhere_ok _)).mono ?_; rintro e w3 ⟨rfl, hu3, hz3⟩; have k0 := (hu3.cellAt (by simp) (fun h => h)).trans HP0.out; have k1 := (hu3.cellAt (by simp) (fun h => h)).trans HP1.out)
        all_goals
          have hu4 : Upd (fun _ => False) wr w3 := ((Upd.refl (fun _ => False) wr).alloc _).trans hu3.undrew
          have HJ := Lib.hid (abides_new hJ hJs hu4)
          have HU := Lib.hid (hnx.trans (hu4.mono (S' := S) (fun _ _ h => h.elim)))
          clear hu3 hz3 k0 k1 hu4
          gi_wp2
          go_roundw
          case rel => exact ⟨k + 1, by omega, by simp, by rw [HM.out]; exact HJ.out, HU.out⟩
          case measure => simp [intOf]; omega
      · have hs : 0 ≤ qs[k].1 := (hgood k hlt).resolve_left hq
        have hsb : (qs[k].1 == -1) = false := by simp; omega
        have HM : Hid (visTo qs fr (k + 1) = visTo qs fr k ++ [(fr + k, qs[k])]) := visTo_hit hlt hq
        clear hq
        have HP0 : Hid ((wr.alloc (.cells #[.int .i64 qs[k].1, .bool qs[k].2] 95)).drew.cell? ⟨wr.heap.size, 0, none⟩ = some (.int .i64 qs[k].1)) := cell_of_block (heap_alloc_last wr _ rfl) 0
        have HP1 : Hid ((wr.alloc (.cells #[.int .i64 qs[k].1, .bool qs[k].2] 95)).drew.cell? ⟨wr.heap.size, 1, none⟩ = some (.bool qs[k].2)) := cell_of_block (heap_alloc_last wr _ rfl) 1
        gi_wp2
        gi_region_with_o (first | refine ⟨trivial, fun _ => by omega, ?_⟩ | skip; gi_at_call 173; refine (callsIn_wide.2 (nowhere_ok _)).mono ?_; rintro e w3 ⟨rfl, hu3, hz3⟩; have k0 := (hu3.cellAt (by simp) (fun h => h)).trans HP0.out; have k1 := (hu3.cellAt (by simp) (fun h => h)).trans HP1.out)
        all_goals
          have hu4 : Upd (fun _ => False) wr w3 := ((Upd.refl (fun _ => False) wr).alloc _).trans hu3.undrew
          have HJ := Lib.hid (abides_new hJ hJs hu4)
          have hnx4 := hnx.trans (hu4.mono (S' := S) (fun _ _ h => h.elim))
          have c4 : w3.cell? ⟨Bp, 0, none⟩ = some (.int .i64 fr) := (hnx4.cellAt hBpW hBp).trans hcp
          have HU := Lib.hid hnx4
          obtain ⟨fn, tmps, assign, body, hy, hR⟩ := hY _ (fr + k, qs[k]) w3 HJ.out (by rw [← HM.out]; exact visTo_prefix qs fr (by omega))
          simp only [enc9, Int.natCast_add] at hy
          clear hu3 hz3 hu4 hnx4
          gi_wp2
          refine ⟨fun _ => by omega, ?_⟩
          refine hR.mono ?_
          rintro e W3 (⟨rfl, hJ3, hk3⟩ | ⟨rfl, hJx3⟩)
          · have HJ3 := Lib.hid hJ3
            have HU3 := Lib.hid (HU.out.trans (hk3.mono (fun _ _ h => h)))
            clear hJ3 hk3 hR
            gi_wp2
            go_roundw
            case rel => exact ⟨k + 1, by omega, by simp, by rw [HM.out]; exact HJ3.out, HU3.out⟩
            case measure => simp [intOf]; omega
          · clear hR
            gi_wp2
            rw [Exit.noGoto_ret]
            refine bodyPost_ret (results_none rfl _ _ _) rfl ?_
            exact ⟨⟨_, rfl⟩, .inr ⟨_, by rw [← HM.out]; exact visTo_prefix qs fr (by omega), hJx3⟩⟩
    · obtain rfl : k = qs.length := by omega
      gi_wp2
      rw [Exit.noGoto_normal]
      go_end0
      exact ⟨⟨_, rfl⟩, .inl ⟨_, rfl, hJs⟩⟩
abbrev ItM (qs : List (Int × Bool)) (fr : Nat) := { x : It9 // x ∈ vis qs fr }
theorem prefix_at {L pre : List It9} {x : It9} (h : pre ++ [x] <+: L) : x ∈ L ∧ pre.length < L.length := by
  refine ⟨h.subset (by simp), ?_⟩
  have := h.length_le
  simp at this
  omega
theorem it_stopsM (n : Nat) (hn : 2 ≤ n) (S : Nat → Prop) (Bs Bp b off cap : Nat) (qs : List (Int × Bool)) (fr : Nat) (w : World) (hle : qs.length ≤ 4096) (hfr : fr ≤ 4096) (hgood : ∀ k (h : k < qs.length), qs[k] = (-1, false) ∨ 0 ≤ qs[k].1)
    (hb : b < w.heap.size) (hBp : Bp < w.heap.size) (hBs : Bs < w.heap.size) (hbS : ¬ S b) (hBpS : ¬ S Bp)
    (hcs : w.cell? ⟨Bs, 0, none⟩ = some (.slice (some ⟨b, off, none⟩) qs.length cap)) (hcp : w.cell? ⟨Bp, 0, none⟩ = some (.int .i64 fr))
    (hc : ∀ j (h : j < qs.length), w.cell? ⟨b, off + j * 2, none⟩ = some (.int .i64 qs[j].1) ∧ w.cell? ⟨b, off + j * 2 + 1, none⟩ = some (.bool qs[j].2)) :
    SeqStopsK Fence.wide n Tryz.prog 217 #[.pointer (some ⟨Bs, 0, none⟩), .pointer (some ⟨Bp, 0, none⟩)] (fun x : ItM qs fr => enc9 x.1) (Upd S) (fun ys => ys.map (·.1) = vis qs fr) (fun pre => pre.map (·.1) <+: vis qs fr) (vis qs fr).length w := fun l J Jx W hW hJ _ hY h0 => by
  refine (it_inM n hn S l Bs Bp b off cap qs fr hle hfr hgood hbS hBpS (fun ys X => ∃ zs : List (ItM qs fr), zs.map (·.1) = ys ∧ J zs X) (fun ys X => ∃ zs : List (ItM qs fr), zs.map (·.1) = ys ∧ Jx zs X) W.heap.size
    (fun ys X Y row h hg hr => by obtain ⟨zs, hz, h⟩ := h; exact ⟨zs, hz, hJ zs X Y row h hg hr⟩) ?_ W (Nat.lt_of_lt_of_le hb hW.size) (Nat.lt_of_lt_of_le hBp hW.size) ((hW.cell (p := ⟨Bs, 0, none⟩) hBs).trans hcs) ((hW.cell (p := ⟨Bp, 0, none⟩) hBp).trans hcp)
    (fun j hj => ⟨(hW.cell (p := ⟨b, off + j * 2, none⟩) hb).trans (hc j hj).1, (hW.cell (p := ⟨b, off + j * 2 + 1, none⟩) hb).trans (hc j hj).2⟩) ⟨[], rfl, h0⟩).mono ?_
  · rintro pre x X ⟨zs, hz, hJz⟩ hp
    obtain ⟨hx, hl⟩ := prefix_at hp
    obtain ⟨fn, tmps, assign, body, hy, hR⟩ := hY zs ⟨x, hx⟩ X hJz (by have := congrArg List.length hz; simp at this; omega)
    refine ⟨fn, tmps, assign, body, hy, hR.mono ?_⟩
    rintro e Y (⟨h1, h2, h3⟩ | ⟨h1, h2⟩)
    · exact .inl ⟨h1, ⟨_, by rw [List.map_append, hz]; rfl, h2⟩, h3⟩
    · exact .inr ⟨h1, ⟨_, by rw [List.map_append, hz]; rfl, h2⟩⟩
  · rintro e Y ⟨hv, ⟨ys, hys, zs, hz, h⟩ | ⟨ys, hys, zs, hz, h⟩⟩
    · exact ⟨hv, .inl ⟨zs, hz.trans hys, h⟩⟩
    · exact ⟨hv, .inr ⟨zs, by show List.map (fun x => x.val) zs <+: vis qs fr; rw [hz]; exact hys, h⟩⟩
end Go.Proofs.YtfhfbpmlnjdfoaaGreatDoor
