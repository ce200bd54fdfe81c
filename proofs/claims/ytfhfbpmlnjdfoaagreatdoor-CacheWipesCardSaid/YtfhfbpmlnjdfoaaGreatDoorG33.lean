/- What sectors tell of a checkpoint: plain. The page that a sector is. The page that a sector is: GetPage. -/
import Derived.Test.YtfhfbpmlnjdfoaaGreatDoorG32
import Derived.Test.YtfhfbpmlnjdfoaaGreatDoorG16
import Derived.Test.YtfhfbpmlnjdfoaaGreatDoorG09
import Derived.Test.YtfhfbpmlnjdfoaaGreatDoorG27
namespace Go.Proofs.YtfhfbpmlnjdfoaaGreatDoor
open Go Go.RowKit
def entAt (ns : List Nat) (i : Nat) : Ent := ⟨ns.getD (4 + 4 * i) 0, ns.getD (4 + 4 * i + 1) 0, ns.getD (4 + 4 * i + 2) 0 == 1, ns.getD (4 + 4 * i + 3) 0⟩
theorem natsI_getD (ns : List Nat) (i : Nat) : (natsI ns).getD i 0 = (ns.getD i 0 : Nat) := by
  simp only [natsI, List.getD_eq_getElem?_getD, List.getElem?_map]
  cases ns[i]? <;> rfl
theorem rowI_getD (xs : List Int) (i j : Nat) (hj : j < 4) : (rowI xs i).getD j 0 = xs.getD (4 + 4 * i + j) 0 := by
  simp only [rowI, List.getD_eq_getElem?_getD, List.getElem?_take, if_pos hj, List.getElem?_drop]
theorem entX_nat (ns : List Nat) (i : Nat) : entX (natsI ns) i = entC (entAt ns i) := by
  unfold entX entC entAt
  rw [rowI_getD _ _ _ (by omega), rowI_getD _ _ _ (by omega), rowI_getD _ _ _ (by omega), rowI_getD _ _ _ (by omega), natsI_getD, natsI_getD, natsI_getD, natsI_getD]
  have : ((ns.getD (4 + 4 * i + 2) 0 : Nat) : Int) == 1 ↔ ns.getD (4 + 4 * i + 2) 0 == 1 := by simp; omega
  rw [Bool.eq_iff_iff.2 this]
  rfl
def pgSeq (b : Bk) : Nat := (numsP b).getD 0 0
def pgNo (b : Bk) : Nat := (numsP b).getD 1 0
def pgOf (b : Bk) : Nat := (numsP b).getD 2 0
def pgMany (b : Bk) : Nat := (numsP b).getD 3 0
def pgEnts (b : Bk) : List Ent := (List.range (pgMany b)).map (entAt (numsP b))
def goesP (seq of no : Nat) (b : Bk) : Bool :=
  if of ≤ no then b == zB else okP b && (pgSeq b == seq && (pgNo b == no && (pgOf b == of && (if no + 1 = of then !(pgMany b == 0 && decide (0 < no)) else pgMany b == 4))))
def readSeq (l : List Bk) : Nat := pgSeq (l.getD 0 zB)
def readOf (l : List Bk) : Nat := pgOf (l.getD 0 zB)
def readOk (l : List Bk) : Bool := okP (l.getD 0 zB) && (decide (readOf l ≤ l.length) && (List.range l.length).all fun i => goesP (readSeq l) (readOf l) i (l.getD i zB))
def entsTo (l : List Bk) (k : Nat) : List Ent := (List.range k).flatMap fun i => pgEnts (l.getD i zB)
def readEs (l : List Bk) : List Ent := entsTo l (readOf l)
theorem okP_may {b : Bk} (h : okP b = true) : mayP (natsI (numsP b)) = true := by
  unfold okP okGet at h
  simp only [Bool.and_eq_true] at h
  exact h.2.2.2
theorem okP_bounds {b : Bk} (h : okP b = true) : pgSeq b ≤ 1099511627776 ∧ pgNo b ≤ 255 ∧ 1 ≤ pgOf b ∧ pgOf b ≤ 256 ∧ pgMany b ≤ 4 := by
  have hm := okP_may h
  unfold mayP at hm
  rw [Bool.and_eq_true, Bool.and_eq_true] at hm
  have hl : (natsI (numsP b)).length = 20 := by simp [natsI, numsP, numsAt_len, szP]
  have hw := hm.1.1
  have w0 := within_at hw (i := 0) (by decide) (by omega)
  have w1 := within_at hw (i := 1) (by decide) (by omega)
  have w2 := within_at hw (i := 2) (by decide) (by omega)
  have w3 := within_at hw (i := 3) (by decide) (by omega)
  have e : ∀ i (hi : i < (natsI (numsP b)).length), (natsI (numsP b))[i] = ((numsP b).getD i 0 : Nat) := fun i hi => by
    rw [← natsI_getD, List.getD_eq_getElem?_getD, List.getElem?_eq_getElem hi]; rfl
  rw [e] at w0 w1 w2 w3
  simp only [bndP, List.getElem_cons_zero, List.getElem_cons_succ] at w0 w1 w2 w3
  unfold pgSeq pgNo pgOf pgMany
  omega
theorem pg_cells {w : World} {p : Nat} {b : Bk} {T : TypeId} (h : w.heap[p]? = some (.cells (dsP (natsI (numsP b))).toArray T (0, 0))) (hok : okP b = true) :
    w.cell? ⟨p, 0, none⟩ = some (.int .i64 (pgSeq b : Nat)) ∧ w.cell? ⟨p, 1, none⟩ = some (.int .i64 (pgNo b : Nat)) ∧ w.cell? ⟨p, 2, none⟩ = some (.int .i64 (pgOf b : Nat)) ∧ w.cell? ⟨p, 3, none⟩ = some (.int .i64 (pgMany b : Nat)) ∧ w.rangeAt p 4 ((pgEnts b).flatMap entC) := by
  refine ⟨?_, ?_, ?_, ?_, ?_⟩
  · rw [cell_of_block h 0]; show some (Value.int .i64 ((natsI (numsP b)).getD 0 0)) = _; rw [natsI_getD]; rfl
  · rw [cell_of_block h 1]; show some (Value.int .i64 ((natsI (numsP b)).getD 1 0)) = _; rw [natsI_getD]; rfl
  · rw [cell_of_block h 2]; show some (Value.int .i64 ((natsI (numsP b)).getD 2 0)) = _; rw [natsI_getD]; rfl
  · rw [cell_of_block h 3]; show some (Value.int .i64 ((natsI (numsP b)).getD 3 0)) = _; rw [natsI_getD]; rfl
  · obtain ⟨-, -, -, -, hm⟩ := okP_bounds hok
    intro j u hj
    have hlen := (List.getElem?_eq_some_iff.1 hj).1
    rw [cell_of_block h]
    have e : (dsP (natsI (numsP b))).toArray[4 + j]? = ((List.range 4).flatMap fun i => entC (entAt (numsP b) i))[j]? := by
      rw [List.getElem?_toArray]
      unfold dsP dsPk
      rw [List.getElem?_append_right (by simp)]
      simp only [List.length_cons, List.length_nil]
      rw [show 4 + j - (0 + 1 + 1 + 1 + 1) = j by omega]
      congr 1
      rw [List.flatMap_def, List.flatMap_def]
      congr 1
      apply List.map_congr_left
      intro i hi
      rw [if_pos (List.mem_range.1 hi), entX_nat]
    rw [e, ← hj]
    unfold pgEnts
    rw [List.flatMap_map]
    rw [show List.range 4 = List.range (pgMany b) ++ (List.range (4 - pgMany b)).map (pgMany b + ·) by rw [← List.range_add, Nat.add_sub_cancel' hm], List.flatMap_append, List.getElem?_append_left]
    have : ((List.range (pgMany b)).flatMap fun i => entC (entAt (numsP b) i)) = ((pgEnts b).flatMap entC) := by unfold pgEnts; rw [List.flatMap_map]
    rw [this]; exact hlen
theorem page_tells {seq : Nat} {E : List Ent} (hs : seq ≤ 1099511627776) (hE : ∀ x ∈ E, EntOk x) (hn : needN E.length ≤ 256) {k : Nat} (hk : k < needN E.length) :
    let b := sectP (pageXs seq (needN E.length) E k)
    okP b = true ∧ pgSeq b = seq ∧ pgNo b = k ∧ pgOf b = needN E.length ∧ pgMany b = (partE E k).length ∧ pgEnts b = partE E k := by
  intro b
  obtain ⟨h1, h2⟩ := page_back (pageXs_len seq (needN E.length) E k) (mayP_page hs hE hn hk)
  have h3 : numsP b = pgN seq k (needN E.length) (partE E k).length (padE (partE E k)) := by
    have : natsI (numsP b) = natsI (pgN seq k (needN E.length) (partE E k).length (padE (partE E k))) := h2
    unfold natsI at this
    exact (List.map_inj_right (f := fun (n : Nat) => (n : Int)) (fun x y h => Int.ofNat_inj.1 h)).1 this
  have hm : pgMany b = (partE E k).length := by unfold pgMany; rw [h3]; rfl
  refine ⟨h1, ?_, ?_, ?_, hm, ?_⟩
  · unfold pgSeq; rw [h3]; rfl
  · unfold pgNo; rw [h3]; rfl
  · unfold pgOf; rw [h3]; rfl
  · unfold pgEnts
    rw [hm, h3]
    have hp := part_le E k
    have hrow : ∀ i, i < (partE E k).length → entAt (pgN seq k (needN E.length) (partE E k).length (padE (partE E k))) i = (partE E k).getD i Ent.none := by
      intro i hi
      have hr := rowI_page seq k (needN E.length) (partE E k).length (padE (partE E k)) (i := i) (by rw [pad_len hp]; omega)
      have hg : (padE (partE E k)).getD i Ent.none = (partE E k).getD i Ent.none := by
        simp [padE, List.getD_eq_getElem?_getD, List.getElem?_append_left hi]
      rw [hg] at hr
      generalize (partE E k).getD i Ent.none = x at *
      generalize pgN seq k (needN E.length) (partE E k).length (padE (partE E k)) = ns at *
      have hq : ∀ j, j < 4 → ns.getD (4 + 4 * i + j) 0 = (entN x).getD j 0 := fun j hj => by
        have := congrArg (fun l => l.getD j 0) hr
        simp only [rowI_getD _ _ _ hj, natsI_getD] at this
        exact Int.ofNat_inj.1 this
      have q0 := hq 0 (by omega); have q1 := hq 1 (by omega); have q2 := hq 2 (by omega); have q3 := hq 3 (by omega)
      unfold entAt
      rw [Nat.add_zero] at q0
      rw [q0, q1, q2, q3]
      obtain ⟨b, s, d, m⟩ := x
      cases d <;> rfl
    apply List.ext_getElem
    · simp
    · intro i h1 h2
      rw [List.getElem_map, List.getElem_range, hrow i h2, List.getD_eq_getElem?_getD, List.getElem?_eq_getElem h2]
      rfl
theorem part_all (E : List Ent) : ∀ k, (List.range k).flatMap (partE E) = E.take (4 * k)
  | 0 => by simp
  | k + 1 => by
    rw [List.range_succ, List.flatMap_append, part_all E k]
    simp only [List.flatMap_cons, List.flatMap_nil, List.append_nil, partE]
    rw [show 4 * (k + 1) = 4 * k + 4 by omega, List.take_add]
theorem part_len (E : List Ent) (k : Nat) : (partE E k).length = min 4 (E.length - 4 * k) := by simp [partE]
theorem read_pages {seq : Nat} {E : List Ent} (hs : seq ≤ 1099511627776) (hE : ∀ x ∈ E, EntOk x) (hn : needN E.length ≤ 256) {l : List Bk} (hm : needN E.length ≤ l.length) (hl : ∀ i < l.length, l.getD i zB = (pagesB seq E).getD i zB) :
    readOk l = true ∧ readSeq l = seq ∧ readEs l = E := by
  have hnp : 1 ≤ needN E.length := by unfold needN; omega
  have hpg : ∀ i, i < needN E.length → l.getD i zB = sectP (pageXs seq (needN E.length) E i) := fun i hi => by
    rw [hl i (by omega), pagesB, pagesTo, List.getD_eq_getElem?_getD, List.getElem?_map, List.getElem?_range hi]
    rfl
  have h0 := page_tells hs hE hn (k := 0) hnp
  dsimp only at h0
  rw [← hpg 0 hnp] at h0
  obtain ⟨a1, a2, a3, a4, a5, a6⟩ := h0
  have hof : readOf l = needN E.length := a4
  refine ⟨?_, a2, ?_⟩
  · unfold readOk
    rw [a1, hof, decide_eq_true hm, Bool.true_and, Bool.true_and, List.all_eq_true]
    intro i hi
    have hi := List.mem_range.1 hi
    unfold goesP
    by_cases h : needN E.length ≤ i
    · rw [if_pos h, hl i hi, List.getD_eq_getElem?_getD, List.getElem?_eq_none (by rw [pagesB, pagesTo_len]; exact h)]
      simp
    · rw [if_neg h]
      obtain ⟨b1, b2, b3, b4, b5, b6⟩ := page_tells hs hE hn (k := i) (by omega)
      rw [← hpg i (by omega)] at b1 b2 b3 b4 b5 b6
      rw [b1, b2, b3, b4, b5, show readSeq l = seq from a2, part_len]
      unfold needN at h ⊢
      split
      · next he =>
        simp only [Bool.true_and, beq_self_eq_true, Bool.not_eq_true', Bool.and_eq_false_iff, beq_eq_false_iff_ne, decide_eq_false_iff_not]
        by_cases hz : i = 0
        · right; omega
        · left; omega
      · next he =>
        simp only [Bool.true_and, beq_self_eq_true, beq_iff_eq]
        omega
  · unfold readEs entsTo
    rw [hof]
    have : (List.range (needN E.length)).flatMap (fun i => pgEnts (l.getD i zB)) = (List.range (needN E.length)).flatMap (partE E) := by
      rw [List.flatMap_def, List.flatMap_def]
      congr 1
      apply List.map_congr_left
      intro i hi
      obtain ⟨-, -, -, -, -, b6⟩ := page_tells hs hE hn (k := i) (List.mem_range.1 hi)
      rw [← hpg i (List.mem_range.1 hi)] at b6
      exact b6
    rw [this, part_all, List.take_of_length_le (by unfold needN; omega)]
def zeroP : List Value := [Value.int .i64 0, .int .i64 0, .int .i64 0, .int .i64 0, .int .i64 0, .int .i64 0, .bool false, .int .i64 0, .int .i64 0, .int .i64 0, .bool false, .int .i64 0, .int .i64 0, .int .i64 0, .bool false, .int .i64 0, .int .i64 0, .int .i64 0, .bool false, .int .i64 0]
theorem zP_one : (zeroP.toArray).all (·.oneCell') = true := by simp [zeroP, Value.oneCell']
set_option maxRecDepth 100000 in
set_option maxHeartbeats 2000000 in
theorem getP_any {w : World} (b : Bk) (hb : b.length = 64) (k : Nat) (ss : List Nat) (hss : (∀ s ∈ ss, 1 ≤ s ∧ s ≤ 7) ∧ ss.sum ≤ 59) (m : Nat) (hm : ss.length = m) (hm2 : m ≤ 100) (gs cl : Nat) (fm fb : Nat) (cm cb : Array Value) (tv : Value) (mb : Bool) (ds : List Value)
    (hds : (Tryz.prog.info? 280).map (·.size) = some ds.length) (hd1 : ∀ v ∈ ds, v.oneCell' = true) (hs : w.rangeAt gs 0 (ints (natsI ss))) (hN : Nib w)
    (entM : ∀ args w, (callFunc fm args).run Tryz.prog w = .ok (.enter fm args) w) (entB : ∀ args w, (callFunc fb args).run Tryz.prog w = .ok (.enter fb args) w)
    (hmay : ∀ W gl c, c = m → Below w.heap.size w W → W.rangeAt gl 0 (ints (natsI (numsAt b 1 ss))) → Calls Tryz.prog fm (#[.slice (some ⟨gl, 0, none⟩) m c] ++ cm) W fun e W' => e = .returned (.bool mb) ∧ Below W.heap.size W W')
    (hbuild : okGet b k ss mb = true → ∀ W gl c, c = m → Below w.heap.size w W → W.rangeAt gl 0 (ints (natsI (numsAt b 1 ss))) → Calls Tryz.prog fb (#[.slice (some ⟨gl, 0, none⟩) m c] ++ cb) W fun e W' => e = .returned (.agg ds.toArray) ∧ Below W.heap.size W W') :
    Calls Tryz.prog 245 #[.agg #[.int .i64 (k : Int), .slice (some ⟨gs, 0, none⟩) m cl, tv, .func (.func fm) #[] cm, .func (.func fb) #[] cb], .agg (bkC b).toArray] w
      (GetPost w (okGet b k ss mb) ds zeroP (cdGet b k ss mb)) := by
  have H := Lib.hid (And.intro hs (And.intro hN (And.intro hmay (And.intro hbuild (And.intro hss hm)))))
  have HC := Lib.hid (And.intro hds (And.intro hd1 hb))
  clear hs hN hmay hbuild hss hm hds hd1 hb
  have hr : ((w.alloc (.cells #[.int .i64 (k : Int), .slice (some ⟨gs, 0, none⟩) m cl, tv, .func (.func fm) #[] cm, .func (.func fb) #[] cb] 380)).alloc (.cells (bkC b).toArray 54)).rangeAt (w.heap.size + 1) 0 (bkC b) := range_of_block (heap_alloc_last _ _ (by simp))
  go_enter Tryz.func245, Tryz.ntmps245
  go_wp2_with (first
    | (refine wpList_load_mid rfl _ _ rfl _ _ rfl _ _ (World.rangeAt_alloc (World.rangeAt_alloc hr _) _) Tryz.underlying54 rfl (sizeBk _ HC.out.2.2) ?_)
    | fail)
  show Calls _ _ _ ((((w.alloc (.cells #[.int .i64 (k : Int), .slice (some ⟨gs, 0, none⟩) m cl, tv, .func (.func fm) #[] cm, .func (.func fb) #[] cb] 380)).alloc (.cells (bkC b).toArray 54)).alloc (.cells zeroP.toArray 280)).alloc (.cells zeroP.toArray 280)) _
  obtain ⟨Z, hZ⟩ : ∃ Z : List Value, Z = zeroP := ⟨_, rfl⟩
  rw [← hZ]
  have hZs : Hid (Z.toArray.size = 20) := by show _ = _; rw [hZ]; rfl
  have hZl : Hid (Z.length = 20) := by show _ = _; rw [hZ]; rfl
  have hsZ : Hid ((Tryz.prog.info? 280).map (·.size) = some Z.length) := by show _ = _; rw [hZ]; exact infoThP
  have hsA : Hid ((Tryz.prog.info? 280).map (·.size) = some Z.toArray.size) := by show _ = _; rw [hZ]; exact infoThP
  have hZ1 : Hid ((Z.toArray).all (·.oneCell') = true) := by show _ = _; rw [hZ]; exact zP_one
  have HZ := Lib.hid hZ
  clear hZ
  obtain ⟨h1, h2, h3, h4, h5, h6⟩ := four_new w (.cells #[.int .i64 (k : Int), .slice (some ⟨gs, 0, none⟩) m cl, tv, .func (.func fm) #[] cm, .func (.func fb) #[] cb] 380) (.cells (bkC b).toArray 54) (.cells Z.toArray 280) (.cells Z.toArray 280)
  clear hr
  generalize (((w.alloc (.cells #[.int .i64 (k : Int), .slice (some ⟨gs, 0, none⟩) m cl, tv, .func (.func fm) #[] cm, .func (.func fb) #[] cb] 380)).alloc (.cells (bkC b).toArray 54)).alloc (.cells Z.toArray 280)).alloc (.cells Z.toArray 280) = w4 at *
  refine (sealed_any b HC.out.2.2 (H.out.2.1.keep h6 (fun h => h))).mono ?_
  rintro e w5 ⟨rfl, hb5⟩
  have hu5 : Upd (fun _ => False) w4 w5 := Upd.of_below hb5
  have g1 := (hu5.block _ (lt_of_block h1) (fun h => h)).trans h1
  have g2 := (hu5.block _ (lt_of_block h2) (fun h => h)).trans h2
  have g3 := (hu5.block _ (lt_of_block h3) (fun h => h)).trans h3
  have g4 := (hu5.block _ (lt_of_block h4) (fun h => h)).trans h4
  have hz5 := hu5.size
  have H5 := Lib.hid (And.intro g1 (And.intro g2 (And.intro g3 (And.intro g4 (And.intro (h6.trans hu5) (And.intro h5 hz5))))))
  clear h1 h2 h3 h4 h5 h6 g1 g2 g3 g4 hu5 hb5 hz5
  by_cases hsl : sealB b = b
  · have hsc : sealedC b = 0 := if_pos hsl
    rw [hsc]
    clear hsc
    have HS := Lib.hid hsl
    clear hsl
    obtain ⟨g1, g2, g3, g4, u5, z4, z5⟩ := H5.out
    have r5 := range_of_block g2
    clear g1 g2 g3 g4 u5
    go_wp2_with (first
      | (refine wpList_load_mid rfl _ _ rfl _ _ rfl _ _ r5 Tryz.underlying54 rfl (sizeBk _ HC.out.2.2) ?_)
      | fail)
    refine (rread b HC.out.2.2).mono ?_
    rintro e w6 ⟨g, rfl, hR6, hge, hb6⟩
    have HX := Lib.hid (And.intro hR6 hb6)
    clear hR6 hb6
    go_wp2_with fail
    refine (rtake HX.out.1 1 (by decide) (by decide) (by decide)).mono ?_
    rintro e w7 ⟨rfl, hR7, hU7⟩
    obtain ⟨kb, hkb⟩ : ∃ kb, kb = numB ((b.drop 0).take 1) := ⟨_, rfl⟩
    rw [← hkb]
    have HK := Lib.hid hkb
    clear hkb
    obtain ⟨g1, g2, g3, g4, u5, z4, z5⟩ := H5.out
    obtain ⟨hs, hN, -, -, hss, hm⟩ := H.out
    have u57 : Upd (fun j => j = g) w5 w7 := ((Upd.of_below (S := fun _ => False) HX.out.2).mono (fun _ _ h => h.elim)).trans hU7
    have u7 : Upd (fun j => j = g) w w7 := (u5.mono (fun _ _ h => h.elim)).trans u57
    have hM7 : w.heap.size + 4 ≤ w7.heap.size := by have := u57.size; omega
    have gM : w.heap.size + 4 ≤ g := by omega
    have m1 : w7.cell? ⟨w.heap.size, 1, none⟩ = some (.slice (some ⟨gs, 0, none⟩) m cl) := u57.cellv (cell_of_block g1 1) (by omega)
    have a1 := (u57.block _ (lt_of_block g1) (by omega)).trans g1
    have a3 := (u57.block _ (lt_of_block g3) (by omega)).trans g3
    have a4 := (u57.block _ (lt_of_block g4) (by omega)).trans g4
    have gslt : gs < w.heap.size ∨ m = 0 := by
      rcases Nat.eq_zero_or_pos m with h | h
      · exact .inr h
      · exact .inl (World.block_lt_of_cell? w _ (hs 0 _ (natsI_get (by omega))))
    have hs7 : ∀ i (hi : i < ss.length), w7.cell? ⟨gs, i, none⟩ = some (.int .i64 (ss[i] : Int)) := fun i hi => by
      have := u7.cellv (hs i _ (natsI_get hi)) (by omega)
      rwa [Nat.zero_add] at this
    have hua : Upd (fun _ => False) w7 (w7.alloc (.cells (ints (List.replicate m 0)).toArray 3)) := (Upd.refl _ _).alloc _
    have hgL := heap_alloc_last w7 (.cells (ints (List.replicate m 0)).toArray 3) rfl
    have hmk := makeInts m (by omega) w7
    have hR8 := hR7.keep hua (fun h => h)
    have hglt := hR7.lt
    have m18 : (w7.alloc (.cells (ints (List.replicate m 0)).toArray 3)).cell? ⟨w.heap.size, 1, none⟩ = some (.slice (some ⟨gs, 0, none⟩) m cl) := hua.cellv m1 (fun h => h)
    have H8 := Lib.hid (And.intro hua (And.intro hgL (And.intro hR8 (And.intro a1 (And.intro a3 (And.intro a4 (And.intro hs7 (And.intro gslt (And.intro u7 (And.intro hss (And.intro hm hN)))))))))))
    clear g1 g2 g3 g4 u5 z4 hs hN hss hm u57 u7 a1 a3 a4 gslt hs7 hua hgL hR8 hU7 hR7 r5 z5
    go_wp2
    clear hmk m1
    generalize hW8 : w7.alloc (.cells (ints (List.replicate m 0)).toArray 3) = w8 at *
    have HW8 := Lib.hid hW8
    clear hW8
    generalize hL : w7.heap.size = L at *
    have HL := Lib.hid hL
    clear hL
    go_loopw [30] (fun s30 wr => ∃ i : Nat, i ≤ m ∧ s30 = .int .i64 i ∧ RdAt wr g b (1 + (ss.take i).sum) ∧ wr.heap[L]? = some (.cells (ints (fillI (numsAt b 1 ss) i)).toArray 3 (0, 0)) ∧ Upd (fun j => j = g ∨ j = L) w8 wr) (fun s30 _ => m - (intOf s30).toNat)
    case atStart => exact ⟨0, Nat.zero_le _, rfl, by simpa using H8.out.2.2.1, by rw [H8.out.2.1]; simp [fillI, natsI, numsAt_len, H8.out.2.2.2.2.2.2.2.2.2.2.1], Upd.refl _ _⟩
    case round =>
      obtain ⟨i, hi, rfl, hR, hL, hu⟩ := hrel
      obtain ⟨hua, hgL, hR8, a1, a3, a4, hs7, gslt, u7, hss, hm, hN⟩ := H8.out
      by_cases hlt : i < m
      · have hil : i < ss.length := by omega
        have x1 : wr.cell? ⟨gs, i, none⟩ = some (.int .i64 (ss[i] : Int)) := hu.cellv (hua.cellv (hs7 i hil) (fun h => h)) (by omega)
        have hsi := hss.1 ss[i] (List.getElem_mem hil)
        obtain ⟨t1, t2⟩ := sum_take ss hil
        have hng : ¬ L = g := by omega
        have hcx : ∃ v, wr.cell? ⟨L, i, none⟩ = some v := by
          rw [cell_of_block hL]
          exact ⟨_, Array.getElem?_eq_getElem (by rw [List.size_toArray, length_ints, fillI_len _ (by rw [numsAt_len]; omega), numsAt_len]; omega)⟩
        have hnx : Hid ((ints (fillI (numsAt b 1 ss) i)).toArray.setIfInBounds i (.int .i64 ((numB ((b.drop (1 + (ss.take i).sum)).take ss[i]) : Nat) : Int)) = (ints (fillI (numsAt b 1 ss) (i + 1))).toArray) := by
          show _ = _
          rw [List.setIfInBounds_toArray, ints_set, ← numsAt_get b 1 ss i hil, fillI_set _ (by rw [numsAt_len]; exact hil)]
        have hsum : Hid (1 + (ss.take (i + 1)).sum = 1 + (ss.take i).sum + ss[i]) := by show _ = _; omega
        have b1 : (0 : Int) ≤ (i : Int) ∧ (i : Int) < (m : Int) := by omega
        have hbd : 1 + (ss.take i).sum + ss[i] ≤ 60 := by omega
        have HX2 := Lib.hid (And.intro hR (And.intro hL (And.intro hu (And.intro hsi (And.intro hbd hcx)))))
        clear hua hgL hR8 a1 a3 a4 hs7 gslt u7 hss hm hN t1 t2 hR hL hu hcx hbd hsi
        obtain ⟨b1, b2⟩ := b1
        generalize ss[i] = si at *
        go_wp2_with fail
        refine (rtake HX2.out.1 si HX2.out.2.2.2.1.1 HX2.out.2.2.2.1.2 HX2.out.2.2.2.2.1).mono ?_
        rintro e w9 ⟨rfl, hR9, hU9⟩
        have hL9 := (hU9.block L (lt_of_block HX2.out.2.1) hng).trans HX2.out.2.1
        obtain ⟨v0, hv0⟩ := HX2.out.2.2.2.2.2
        have c9 := hU9.cellv hv0 hng
        have z9 := frozen_of_block hL9 i
        have hL10 := heap_setCell_same hL9 i (.int .i64 ((numB ((b.drop (1 + (ss.take i).sum)).take si) : Nat) : Int))
        rw [hnx.out] at hL10
        have hR10 := hR9.keep (upd_setCell w9 L i (.int .i64 ((numB ((b.drop (1 + (ss.take i).sum)).take si) : Nat) : Int))) (fun e => hng e.symm)
        rw [← hsum.out] at hR10
        have hU10 : Upd (fun j => j = g ∨ j = L) w8 (w9.setCell ⟨L, i, none⟩ (.int .i64 ((numB ((b.drop (1 + (ss.take i).sum)).take si) : Nat) : Int))) :=
          HX2.out.2.2.1.trans ((hU9.mono (fun _ _ h => .inl h)).trans ((upd_setCell _ _ _ _).mono (fun _ _ h => .inr h)))
        have HZ := Lib.hid (And.intro hR10 (And.intro hL10 hU10))
        clear hL9 hv0 hL10 hR10 hU10 hU9 hR9
        go_wp2
        go_roundw
        case rel => exact ⟨i + 1, by omega, by go_num, HZ.out.1, HZ.out.2.1, HZ.out.2.2⟩
        case measure => simp [intOf]; omega
      · obtain rfl : i = m := by omega
        rw [List.take_of_length_le (by omega)] at hR
        have hl5 : i = (numsAt b 1 ss).length := by rw [numsAt_len]; omega
        rw [show fillI (numsAt b 1 ss) i = natsI (numsAt b 1 ss) by rw [hl5]; exact fillI_all _] at hL
        clear hl5
        have u8r : Upd (fun j => j = g ∨ j = L) w7 wr := (hua.mono (fun _ _ h => h.elim)).trans hu
        have hLw : w.heap.size + 4 ≤ L := hM7
        have hlw : Below w.heap.size w wr := by
          refine below_upd (below_upd (Below.refl _ w) u7 (Nat.le_refl _) (fun k e => by omega)) u8r (Nat.le_refl _) (fun k e => by omega)
        have e1 := (u8r.block _ (lt_of_block a1) (by omega)).trans a1
        have e3 := (u8r.block _ (lt_of_block a3) (by omega)).trans a3
        have e4 := (u8r.block _ (lt_of_block a4) (by omega)).trans a4
        have hErr : ∀ W, Below wr.heap.size wr W → W.rangeAt (w.heap.size + 1 + 1 + 1) 0 Z ∧ W.there (w.heap.size + 1 + 1) 0 20 ∧ Below w.heap.size w W := fun W hW => by
          have f3 := (hW.block _ (lt_of_block e3)).trans e3
          refine ⟨range_of_block ((hW.block _ (lt_of_block e4)).trans e4), fun j hj => ?_, hlw.trans (hW.mono hlw.size)⟩
          rw [cell_of_block f3, frozen_of_block f3]
          exact ⟨by rw [Nat.zero_add, Array.getElem?_eq_getElem (by have := hZl.out; simp; omega)]; rfl, rfl⟩
        have m0 : wr.cell? ⟨w.heap.size, 0, none⟩ = some (.int .i64 (k : Int)) := cell_of_block e1 0
        have m3 : wr.cell? ⟨w.heap.size, 3, none⟩ = some (.func (.func fm) #[] cm) := cell_of_block e1 3
        have m4 : wr.cell? ⟨w.heap.size, 4, none⟩ = some (.func (.func fb) #[] cb) := cell_of_block e1 4
        have HE := Lib.hid (And.intro hErr (And.intro m3 (And.intro m4 (And.intro hR (And.intro (range_of_block hL) hlw)))))
        obtain ⟨rz, tz, hbz⟩ := hErr wr (Below.refl _ _)
        clear hua hgL hR8 a1 a3 a4 hs7 gslt u7 hss hm hN hR hL hu u8r hlw e1 e3 e4 hErr m3 m4
        by_cases hkk : kb = k
        · have hq : ((kb : Int) == (k : Int)) = true := by rw [hkk]; simp
          have hq2 : ((kb : Int) != (k : Int)) = false := by rw [hkk]; simp
          have HKK := Lib.hid hkk
          clear hkk rz tz hbz
          go_wp2_with fail
          refine (rend HE.out.2.2.2.1).mono ?_
          rintro e w10 ⟨rfl, hb10⟩
          obtain ⟨rz, tz, hbz⟩ := HE.out.1 w10 hb10
          have m3 := (Upd.of_below (S := fun _ => False) hb10).cellv HE.out.2.1 (fun h => h)
          have m4 := (Upd.of_below (S := fun _ => False) hb10).cellv HE.out.2.2.1 (fun h => h)
          have rL := Below.range hb10 HE.out.2.2.2.2.1
          have H10 := Lib.hid (And.intro hb10 (And.intro rL m4))
          clear rL m4 hb10
          have HBz := Lib.hid hbz
          clear hbz
          by_cases hen : endB b (1 + ss.sum) = true
          · have he0 : endC b (1 + ss.sum) = 0 := if_pos hen
            rw [he0]
            clear he0 rz tz
            have HEN := Lib.hid hen
            clear hen
            go_wp2_with fail
            refine (H.out.2.2.1 w10 L i rfl HBz.out H10.out.2.1).mono ?_
            rintro e w11 ⟨rfl, hb11⟩
            obtain ⟨rz, tz, hbz11⟩ := HE.out.1 w11 (H10.out.1.trans (hb11.mono H10.out.1.size))
            have m4 := (Upd.of_below (S := fun _ => False) hb11).cellv H10.out.2.2 (fun h => h)
            have rL := Below.range hb11 H10.out.2.1
            have HBz11 := Lib.hid hbz11
            have HRL := Lib.hid rL
            have HBz11b := Lib.hid hb11
            clear rL hbz11 hb11
            cases mb with
            | true =>
              have HR : Hid (okGet b k ss true = true) := by
                show _ = _
                simp only [okGet, HS.out, HEN.out, decide_true, Bool.true_and, Bool.and_true, decide_eq_true_eq]
                have := HK.out
                rw [List.drop_zero] at this
                rw [← this, HKK.out]
              clear rz tz
              go_wp2_with fail
              refine (H.out.2.2.2.1 HR.out w11 L i rfl HBz11.out HRL.out).mono ?_
              rintro e w12 ⟨rfl, hb12⟩
              obtain ⟨-, tz, hbz12⟩ := HE.out.1 w12 ((H10.out.1.trans ((HBz11b.out).mono H10.out.1.size)).trans (hb12.mono (by have := H10.out.1.size; have := HBz11b.out.size; omega)))
              have hdl : ds.length = 20 := by have h1 := HC.out.1; rw [infoThP] at h1; injection h1 with h1; exact h1.symm
              have hst : w12.there (w.heap.size + 1 + 1) 0 ds.toArray.size := by rw [show ds.toArray.size = 20 by simpa using hdl]; exact tz
              have hst2 : w12.there (w.heap.size + 1 + 1) 0 ds.length := by rw [hdl]; exact tz
              have hsz2 : (Tryz.prog.info? 280).map (·.size) = some ds.toArray.size := by rw [show ds.toArray.size = 20 by simpa using hdl]; exact infoThP
              have HST := Lib.hid (And.intro hst (And.intro hsz2 (And.intro hst2 hbz12)))
              clear hst hsz2 hst2 hdl hbz12 tz hb12
              go_wp2_with (first
                | (refine wpList_store_mid rfl _ _ _ rfl _ _ ds.toArray rfl rfl HST.out.1 HST.out.2.1 (all_oneCell_toArray HC.out.2.1) ?_)
                | fail)
              exact bodyPost_ret (results_mid2 rfl _ _ (w.heap.size + 1 + 1) 0 ds _ rfl (World.rangeAt_setCells_same _ _ _ _ HST.out.2.2.1) Tryz.underlying280 rfl HC.out.1) rfl
                ⟨⟨ds, fun _ => rfl, fun h => (by rw [HR.out] at h; cases h), by rw [show cdGet b k ss true = 0 from if_pos HR.out]; rfl⟩, below_upd HST.out.2.2.2 (upd_row _ (w.heap.size + 1 + 1) 0 _) (Nat.le_refl _) (fun k e => by omega)⟩
            | false =>
              have HR : Hid (okGet b k ss false = false) := by show _ = _; simp [okGet]
              go_wp2_with (first
                | (refine wpList_load_mid rfl _ _ rfl _ _ rfl _ _ rz Tryz.underlying280 rfl hsZ.out ?_)
                | (refine wpList_store_mid rfl _ _ _ rfl _ _ Z.toArray rfl rfl (by rw [hZs.out]; exact tz) hsA.out hZ1.out ?_)
                | fail)
              exact bodyPost_ret (results_mid2 rfl _ _ (w.heap.size + 1 + 1) 0 Z _ rfl (World.rangeAt_setCells_same _ _ _ _ (by first | (rw [hZs.out]; exact tz) | (rw [hZl.out]; exact tz))) Tryz.underlying280 rfl hsZ.out) rfl
                ⟨⟨_, fun h => (by rw [HR.out] at h; cases h), fun _ => rfl, by rw [okGet_no HS.out HR.out, HZ.out]; rfl⟩, below_upd HBz11.out (upd_row _ (w.heap.size + 1 + 1) 0 _) (Nat.le_refl _) (fun k e => by omega)⟩
          · have he0 : endC b (1 + ss.sum) = 12 := if_neg hen
            rw [he0]
            clear he0
            have HR : Hid (okGet b k ss mb = false) := by show _ = _; simp [okGet, hen]
            clear hen
            go_wp2_with (first
              | (refine wpList_load_mid rfl _ _ rfl _ _ rfl _ _ rz Tryz.underlying280 rfl hsZ.out ?_)
              | (refine wpList_store_mid rfl _ _ _ rfl _ _ Z.toArray rfl rfl (by rw [hZs.out]; exact tz) hsA.out hZ1.out ?_)
              | fail)
            exact bodyPost_ret (results_mid2 rfl _ _ (w.heap.size + 1 + 1) 0 Z _ rfl (World.rangeAt_setCells_same _ _ _ _ (by first | (rw [hZs.out]; exact tz) | (rw [hZl.out]; exact tz))) Tryz.underlying280 rfl hsZ.out) rfl
              ⟨⟨_, fun h => (by rw [HR.out] at h; cases h), fun _ => rfl, by rw [okGet_no HS.out HR.out, HZ.out]; rfl⟩, below_upd HBz.out (upd_row _ (w.heap.size + 1 + 1) 0 _) (Nat.le_refl _) (fun k e => by omega)⟩
        · have hq : ((kb : Int) == (k : Int)) = false := by rw [beq_eq_false_iff_ne]; omega
          have hq2 : ((kb : Int) != (k : Int)) = true := by rw [bne_iff_ne]; omega
          have HR : Hid (okGet b k ss mb = false) := by
            show _ = _
            have := HK.out
            rw [List.drop_zero] at this
            simp [okGet, ← this, hkk]
          have HBz := Lib.hid hbz
          clear hkk hbz
          go_wp2_with (first
            | (refine wpList_load_mid rfl _ _ rfl _ _ rfl _ _ rz Tryz.underlying280 rfl hsZ.out ?_)
            | (refine wpList_store_mid rfl _ _ _ rfl _ _ Z.toArray rfl rfl (by rw [hZs.out]; exact tz) hsA.out hZ1.out ?_)
            | fail)
          exact bodyPost_ret (results_mid2 rfl _ _ (w.heap.size + 1 + 1) 0 Z _ rfl (World.rangeAt_setCells_same _ _ _ _ (by first | (rw [hZs.out]; exact tz) | (rw [hZl.out]; exact tz))) Tryz.underlying280 rfl hsZ.out) rfl
            ⟨⟨_, fun h => (by rw [HR.out] at h; cases h), fun _ => rfl, by rw [okGet_no HS.out HR.out, HZ.out]; rfl⟩, below_upd HBz.out (upd_row _ (w.heap.size + 1 + 1) 0 _) (Nat.le_refl _) (fun k e => by omega)⟩
  · have hsc : sealedC b = 13 := if_neg hsl
    have hres := okGet_seal (k := k) (ss := ss) (mb := mb) hsl
    rw [hsc]
    have HR := Lib.hid hres
    clear hsc hsl hres
    obtain ⟨g1, g2, g3, g4, u5, z4, z5⟩ := H5.out
    have r4 := range_of_block g4
    have hth : w5.there (w.heap.size + 1 + 1) 0 20 := fun j hj => by
      rw [cell_of_block g3, frozen_of_block g3]
      exact ⟨by rw [Nat.zero_add, Array.getElem?_eq_getElem (by have := hZl.out; simp; omega)]; rfl, rfl⟩
    have HU := Lib.hid u5
    clear g1 g2 g3 g4 u5 z4 z5
    go_wp2_with (first
      | (refine wpList_load_mid rfl _ _ rfl _ _ rfl _ _ r4 Tryz.underlying280 rfl hsZ.out ?_)
      | (refine wpList_store_mid rfl _ _ _ rfl _ _ Z.toArray rfl rfl (by rw [hZs.out]; exact hth) hsA.out hZ1.out ?_)
      | fail)
    refine bodyPost_ret (results_mid2 rfl _ _ (w.heap.size + 1 + 1) 0 Z _ rfl (World.rangeAt_setCells_same _ _ _ _ (by first | (rw [hZs.out]; exact hth) | (rw [hZl.out]; exact hth))) Tryz.underlying280 rfl hsZ.out) rfl
      ⟨⟨_, fun h => (by rw [HR.out.1] at h; cases h), fun _ => rfl, by rw [HR.out.2, HZ.out]; rfl⟩, below_upd (Upd.below HU.out) (upd_row w5 (w.heap.size + 1 + 1) 0 _) (Nat.le_refl _) (fun k e => by omega)⟩
def GetPPost (w : World) (b : Bk) : Ending → World → Prop := GetPost w (okP b) (dsP (natsI (numsP b))) zeroP (cdP b)
set_option maxRecDepth 100000 in
theorem getP_form {w : World} {gs gt : Nat} (hF : FormP w gs gt) (hN : Nib w) (b : Bk) (hb : b.length = 64) :
    Calls Tryz.prog 245 #[formPV gs gt, .agg (bkC b).toArray] w (GetPPost w b) := by
  obtain ⟨hs, v, hv, hB⟩ := hF
  refine getP_any (w := w) b hb 3 szP ⟨by simp [szP], by decide⟩ 20 rfl (by decide) gs 20 308 310 #[.pointer (some ⟨gt, 0, none⟩)] #[] (.func (.func 307) #[] #[]) (mayP (natsI (numsP b))) (dsP (natsI (numsP b)))
    (by rw [dsP_len]; exact infoThP) (dsP_one _) hs hN (fun _ _ => rfl) (fun _ _ => rfl) ?_ ?_
  · intro W gl c hc hW hr
    subst hc
    exact mayP_any _ (by show (natsI (numsAt b 1 _)).length = 20; simp [natsI, numsAt_len, szP]) (Nat.le_refl _) (by decide) ((Upd.of_below (S := fun _ => False) hW).cellv hv (fun h => h)) (hB.below hW) hr
  · intro _ W gl c hc hW hr
    subst hc
    exact buildP _ (by show (natsI (numsAt b 1 _)).length = 20; simp [natsI, numsAt_len, szP]) hr (Nat.le_refl _) (by decide)
set_option maxRecDepth 100000 in
set_option maxHeartbeats 1000000 in
theorem GetP_any {w : World} (hN : Nib w) (b : Bk) (hb : b.length = 64) :
    Calls Tryz.prog 172 #[.agg (bkC b).toArray] w (GetPPost w b) := by
  have HN := Lib.hid hN
  have Hb := Lib.hid hb
  clear hN hb
  go_enter Tryz.func172, Tryz.ntmps172
  go_wp2_with fail
  change Code.wp _ _ _ _ ((w.alloc (.cells (bkC b).toArray 54)).alloc (.cells zeroP.toArray 280))
  have hr : ((w.alloc (.cells (bkC b).toArray 54)).alloc (.cells zeroP.toArray 280)).rangeAt w.heap.size 0 (bkC b) := World.rangeAt_alloc (range_of_block (heap_alloc_last w _ rfl)) _
  have hg : ((w.alloc (.cells (bkC b).toArray 54)).alloc (.cells zeroP.toArray 280)).heap[w.heap.size + 1]? = some (.cells zeroP.toArray 280) := heap_alloc_last _ _ (by simp)
  have hu : Upd (fun _ => False) w ((w.alloc (.cells (bkC b).toArray 54)).alloc (.cells zeroP.toArray 280)) := ((Upd.refl _ w).alloc _).alloc _
  generalize (w.alloc (.cells (bkC b).toArray 54)).alloc (.cells zeroP.toArray 280) = w2 at *
  have hb2 : Below w.heap.size w w2 := Upd.below hu
  refine wp_region_held_drew (S := fun W => W.rangeAt w.heap.size 0 (bkC b)) (by kernel_rfl) (by rw [World.rangeAt_drew]; exact hr) (fun hHeld => ?_)
  refine Wl.l 1 (fun w h => h) Tryz.underlying54 (sizeBk _ Hb.out) hHeld ?_
  refine Wl.r 0 (fun K hK => ?_)
  go_simp
  refine (pages_any _).mono ?_
  rintro e w3 ⟨gs, gt, rfl, hF, hb3⟩
  have hb3' : Below w2.heap.size w2 w3 := bundrew' hb3
  refine hK.out _ _ (Below.range hb3 hHeld) (fun hHeld2 => ?_)
  clear hK K
  refine Wl.r 2 (fun K hK => ?_)
  go_simp
  refine (getP_form hF ((HN.out.keep hu (fun h => h)).below hb3') b Hb.out).mono ?_
  rintro e w4 ⟨⟨rs, hr1, hr2, rfl⟩, hb4⟩
  have hb4' : Below w2.heap.size w2 w4 := hb3'.trans (hb4.mono hb3'.size)
  have hg4 := (hb4'.block _ (lt_of_block hg)).trans hg
  have hth : w4.there (w.heap.size + 1) 0 20 := fun j hj => by
    rw [cell_of_block hg4, frozen_of_block hg4]
    exact ⟨by rw [Nat.zero_add, Array.getElem?_eq_getElem (by rw [List.size_toArray]; exact hj)]; rfl, rfl⟩
  have hrl : rs.length = 20 ∧ ∀ v ∈ rs, v.oneCell' = true := by
    cases hk : okP b with
    | true => rw [hr1 hk]; exact ⟨dsP_len _, dsP_one _⟩
    | false => rw [hr2 hk]; exact ⟨rfl, List.all_eq_true.1 (by simp [zeroP, Value.oneCell'] : zeroP.all (·.oneCell') = true)⟩
  have hst : w4.there (w.heap.size + 1) 0 rs.toArray.size := by rw [show rs.toArray.size = 20 by simpa using hrl.1]; exact hth
  have hst2 : w4.there (w.heap.size + 1) 0 rs.length := by rw [hrl.1]; exact hth
  have hsz2 : (Tryz.prog.info? 280).map (·.size) = some rs.toArray.size := by rw [show rs.toArray.size = 20 by simpa using hrl.1]; exact infoThP
  have hsz3 : (Tryz.prog.info? 280).map (·.size) = some rs.length := by rw [hrl.1]; exact infoThP
  have hU5 : Below w.heap.size w (w4.setCells (w.heap.size + 1) 0 rs) := below_upd (hb2.trans (hb4'.mono hu.size)) (upd_row w4 (w.heap.size + 1) 0 _) (Nat.le_refl _) (fun k e => by omega)
  refine hK.out _ _ (Below.range hb4 hHeld2) (fun hHeld3 => ?_)
  clear hK K
  refine Wl.i [3, 4] ?_; iterate 2 refine Wl.t hHeld3 ?_
  refine Wl.o ?_
  refine Wl.r 5 (fun K hK => ?_)
  rw [if_pos (by rfl)]
  refine wp_store_mid _ _ _ rfl _ _ (List.toArray _) rfl rfl (hst) (hsz2) (all_oneCell_toArray hrl.2) ?_
  simp only [Act.put, List.setIfInBounds_toArray]
  refine hK.out _ _ ((upd_row w4 (w.heap.size + 1) 0 rs).range hHeld3 (by omega)) (fun hHeld4 => ?_)
  clear hK K
  refine Wl.r 6 (fun K hK => ?_)
  go_simp
  refine hK.out _ _ (hHeld4) (fun _ => ?_)
  clear hK K
  refine Wl.d ?_
  have HE := Lib.hid (And.intro hU5 (And.intro hst2 (And.intro hsz3 (And.intro hr1 hr2))))
  clear hst hst2 hsz2 hsz3 hU5 hth hg4 hb4 hb4' hb3 hb3' hHeld hHeld2 hHeld3 hHeld4 hF hr hg hu hb2 hr1 hr2 hrl
  go_wp2
  exact bodyPost_ret (results_mid2 rfl _ _ (w.heap.size + 1) 0 rs _ rfl (World.rangeAt_setCells_same _ _ _ _ HE.out.2.1) Tryz.underlying280 rfl HE.out.2.2.1) rfl ⟨⟨rs, HE.out.2.2.2.1, HE.out.2.2.2.2, rfl⟩, HE.out.1⟩
end Go.Proofs.YtfhfbpmlnjdfoaaGreatDoor
