/- The iterator over the dirty blocks: its contract. Writeback: Dirty. Writeback: what is done with each block of a step. Writeback: a block is written to the backing device. Writeback: a step of blocks, block by block. The plain laws. -/
import Derived.Test.YtnadilfobmgebaaGreatDoorH30
import Derived.Maps.OwnIn
import Derived.Deep.LoopGhost
namespace Go.Proofs.YtnadilfobmgebaaGreatDoor
open Go Go.RowKit Go.Shelf
attribute [local go_sem] Oper.semAt_some
theorem yieldAt_any {m m' l : Nat} {args : Array Value} {W : World} {R : Ending → World → Prop} (h : YieldAt Fence.wide m Tryz.prog l args W R) : YieldAt Fence.wide m' Tryz.prog l args W R := by
  obtain ⟨fn, tmps, assign, body, hy, hF, hR⟩ := h
  exact ⟨fn, tmps, assign, body, hy, hF, fun c cs _ => hR c cs (fun d hd => by cases hd)⟩
theorem wp_nopanic {P : Program} {c : Code} {K : Act → World → Prop} {Q' : Exit → Act → World → Prop} {a : Act} {w : World} (h : c.wp P (Exit.then K (fun _ _ _ => False)) a w) : c.wp P (Exit.then K Q') a w :=
  wp_mono h (fun e a w h => by
    cases e
    case normal => exact h
    all_goals exact h.elim)
def dirS (lb M1 : Nat) (W : World) (j : Nat) : Prop := j = lb ∨ j = M1 ∨ ∃ cs z, W.heap[j]? = some (.cells cs 3 z)
def KpD (lb M1 : Nat) (W W' : World) : Prop := Upd (dirS lb M1 W) W W'
theorem dirS_back {lb M1 : Nat} {S : Nat → Prop} {A B : World} (h : Upd S A B) {j : Nat} (hj : j < A.heap.size) (hS : ¬ S j) (hd : dirS lb M1 B j) : dirS lb M1 A j := by
  rcases hd with hd | hd | ⟨cs, z, hd⟩
  · exact .inl hd
  · exact .inr (.inl hd)
  · exact .inr (.inr ⟨cs, z, (h.block j hj hS).symm.trans hd⟩)
theorem KpD.trans {lb M1 : Nat} {A B C : World} (h : KpD lb M1 A B) (g : KpD lb M1 B C) : KpD lb M1 A C :=
  ⟨g.os.trans h.os, g.tape.trans h.tape, g.output.trans h.output, Nat.le_trans h.size g.size, fun j hj hS => by
    have h1 := h.block j hj hS
    refine (g.block j (Nat.lt_of_lt_of_le hj h.size) (fun hd => hS (dirS_back h hj hS hd))).trans h1⟩
theorem KpD.put {lb M1 : Nat} (W : World) (o : Obj) : KpD lb M1 W (W.putObj M1 o) := (upd_put W M1 o).mono (fun _ _ e => .inr (.inl e))
def dmI (L : List It9) : List Nat := (L.filter (·.2.2)).map (·.1)
theorem dmI_app (L L' : List It9) : dmI (L ++ L') = dmI L ++ dmI L' := by simp [dmI]
theorem dmI_len (L : List It9) : (dmI L).length ≤ L.length := by
  unfold dmI
  rw [List.length_map]
  exact List.length_filter_le _ _
theorem dmI_visTo (ps : List (Int × Bool)) : ∀ m, m ≤ ps.length → dmI (visTo ps 0 m) = (List.range m).filter fun k => (plc ps k).2
  | 0, _ => rfl
  | m + 1, h => by
    rw [List.range_succ, List.filter_append, ← dmI_visTo ps m (by omega)]
    have hm : m < ps.length := by omega
    by_cases hq : ps[m] = (-1, false)
    · rw [visTo_miss hm hq]
      have : (plc ps m).2 = false := by rw [plc_at hm, hq]
      rw [List.filter_cons, if_neg (by rw [this]; decide), List.filter_nil, List.append_nil]
    · rw [visTo_hit hm hq, dmI_app]
      congr 1
      cases hd : ps[m].2 with
      | true =>
        have : (plc ps m).2 = true := by rw [plc_at hm, hd]
        rw [List.filter_cons, if_pos this, List.filter_nil]
        simp [dmI, hd]
      | false =>
        have : (plc ps m).2 = false := by rw [plc_at hm, hd]
        rw [List.filter_cons, if_neg (by rw [this]; decide), List.filter_nil]
        simp [dmI, hd]
theorem dmI_vis {ps : List (Int × Bool)} {b : Nat} (h : ps.length = b) : dmI (vis (spanL ps 0 b) 0) = dirtL ps := by
  have e : spanL ps 0 b = ps := by unfold spanL; rw [List.drop_zero, ← h, List.take_length]
  rw [e]
  exact dmI_visTo ps _ (Nat.le_refl _)
theorem dmI_prefix {L L' : List It9} (h : L <+: L') : dmI L <+: dmI L' := by
  obtain ⟨t, rfl⟩ := h
  rw [dmI_app]
  exact List.prefix_append _ _
theorem run_field_bl (a b c d e f g : Int) (W : World) : (Instr.field 34 (.agg #[.int .i64 a, .int .i64 b, .int .i64 c, .int .i64 d, .int .i64 e, .int .i64 f, .int .i64 g]) 1).run Tryz.prog W = .ok (.int .i64 b) W := by
  kernel_rfl
theorem run_field_sl (a b c d e f g : Int) (W : World) : (Instr.field 34 (.agg #[.int .i64 a, .int .i64 b, .int .i64 c, .int .i64 d, .int .i64 e, .int .i64 f, .int .i64 g]) 2).run Tryz.prog W = .ok (.int .i64 c) W := by
  kernel_rfl
set_option maxRecDepth 100000 in
set_option maxHeartbeats 2000000 in
theorem dirt_o {own : Nat → Nat} {w : World} {c : Nat} {n : CaN} {p : CaP} {a : CaS} (h : CaAt own w c n p a) (Bc lb M1 : Nat) (hBc : w.heap[Bc]? = some (.cells #[ptr c] 95 (0, 0))) (hlb : lb < w.heap.size) (_hlc : Bc ≠ lb) (hM : w.heap.size ≤ M1 ∧ M1 < w.heap.size + 2) (m : Nat) :
    SeqO m 143 #[.pointer (some ⟨Bc, 0, none⟩)] (fun k : Nat => #[.int .i64 (k : Int)]) (KpD lb M1) (fun ys => ys = dirtL a.ps) (fun pre => pre <+: dirtL a.ps) (vis (spanL a.ps 0 n.bl) 0).length w := by
  intro l J Jx W hW hW2 hJ hJx hY h0
  have hBl := lt_of_block hBc
  have hUW : Upd (fun _ => False) w W := Upd.of_below hW
  have hcW := h.new hUW
  have gB := hUW.blockv hBc
  have hWs := hW.size
  obtain ⟨w1, hw1⟩ : ∃ w1, w1 = W.alloc (.cells #[.func (.yield l) #[] #[]] 215) := ⟨_, rfl⟩
  have hu1 : Upd (fun _ => False) W w1 := by rw [hw1]; exact (Upd.refl _ W).alloc _
  obtain ⟨yb, hyb⟩ : ∃ yb, yb = W.heap.size := ⟨_, rfl⟩
  have gY : w1.heap[yb]? = some (.cells #[.func (.yield l) #[] #[]] 215 (0, 0)) := by rw [hw1, hyb]; exact heap_alloc_last W _ rfl
  have hud := (Upd.refl (fun _ => False) w1).drew
  have hc1 := (hcW.new hu1).new hud
  have gB1 := hud.blockv (hu1.blockv gB)
  have gY1 := hud.blockv gY
  have cB := cell_of_block (hu1.blockv gB) 0
  simp at cB
  have hz1 : w1.drew.heap.size = W.heap.size + 1 := by rw [hw1]; simp
  have HS := Lib.hid (show Calls Tryz.prog 93 #[ptr c] w1.drew fun e w' => e = .returned (.agg #[.int .i64 n.id, .int .i64 n.bl, .int .i64 n.sl, .int .i64 n.jo, .int .i64 n.pa, .int .i64 n.lo, .int .i64 n.ba]) ∧ Below w1.drew.heap.size w1.drew w' from ca_super hc1)
  have hfb := run_field_bl (n.id : Int) (n.bl : Int) (n.sl : Int) (n.jo : Int) (n.pa : Int) (n.lo : Int) (n.ba : Int)
  have hsl : (spanL a.ps 0 n.bl).length ≤ 4096 := by
    have := h.ok.b2
    simp [spanL]; omega
  have hgood : ∀ k (hk : k < (spanL a.ps 0 n.bl).length), (spanL a.ps 0 n.bl)[k] = (-1, false) ∨ 0 ≤ (spanL a.ps 0 n.bl)[k].1 := by
    obtain ⟨vi, mi, hix, -, -⟩ := h.ix
    intro k hk
    have e : (spanL a.ps 0 n.bl)[k] = a.ps[k]'(by simp [spanL] at hk; omega) := by simp [spanL]
    rw [e]
    exact (hix.good.each k _).imp id And.left
  have hpl := h.pl
  have HH := Lib.hid (And.intro hJ (And.intro hJx (And.intro hY (And.intro h0 (And.intro hc1 (And.intro gB1 (And.intro gY1 (And.intro hz1 (And.intro hu1 (And.intro hgood (And.intro hpl (And.intro hWs hW2))))))))))))
  have HW := Lib.hid (And.intro hw1 hyb)
  clear hW2 hJ hJx hY h0 hcW gB hw1 hu1 gY hud hc1 gB1 gY1 hz1 hUW hgood hpl hyb hWs
  refine callsIn_of_wp_marks Tryz.func143 rfl trivial ?_ rfl
  simp only [Tryz.ntmps143, List.size_toArray, List.length_cons, List.length_nil, Nat.reduceAdd, Nat.reduceSub, Array.replicate_succ, Array.replicate_zero, List.push_toArray, List.append_toArray, List.nil_append, List.cons_append]
  refine wpIn_wide.2 ?_
  go_upto_region 1 with fail
  rw [← HW.out.1, ← HW.out.2]
  refine wp_nopanic ?_
  refine wp_region_held_drew (S := fun X => X.cell? ⟨Bc, 0, none⟩ = some (ptr c)) (by kernel_rfl) (by (simp only [World.cell?_drew]); exact cB) (fun hHeld => ?_)
  refine Wl.i [0, 1] ?_; iterate 2 refine Wl.t hHeld ?_
  refine Wl.o ?_
  refine Wl.r 2 (fun K hK => ?_)
  go_simp
  refine HS.out.mono ?_
  rintro e w2 ⟨rfl, hb2⟩
  obtain ⟨hJ, hJx, hY, h0, hc1, gB1, gY1, hz1, hu1, hgood, hpl, hWs, hW2⟩ := HH.out
  have hu2 : Upd (fun _ => False) w1.drew w2 := Upd.of_below hb2
  have hc2 := hc1.new hu2
  have gB2 := hu2.blockv gB1
  have gY2 := hu2.blockv gY1
  have cB2 := cell_of_block gB2 0
  simp at cB2
  have HP := Lib.hid (ca_places hc2)
  have hz2 := hu2.size
  have H2 := Lib.hid (And.intro gB2 (And.intro gY2 (And.intro hz1 (And.intro hz2 hu2))))
  clear hJ hJx hY h0 hc1 gB1 gY1 hz1 hu1 hgood hpl hWs hW2 hu2 hc2 gB2 gY2 hz2 hb2
  refine hK.out _ _ (cB2) (fun hH1 => ?_)
  clear hK K
  refine Wl.i [3] (Wl.t hH1 (Wl.o ?_))
  refine Wl.r 4 (fun K hK => ?_)
  go_simp
  refine hK.out _ _ (cB2) (fun hH2 => ?_)
  clear hK K
  refine Wl.r 5 (fun K hK => ?_)
  go_simp
  refine HP.out.mono ?_
  rintro e w5 ⟨Bs, Bp, g, off, cap, rfl, ⟨hB1, hB2, hB3⟩, hBs, ⟨bcs, bz, hBp⟩, ⟨gcs, gz, hg⟩, hcs, hcp, hcl5, hb5⟩
  have cB5 := (hb5.cell (p := ⟨Bc, 0, none⟩) (lt_of_block H2.out.1)).trans cB2
  refine hK.out _ _ (cB5) (fun hH3 => ?_)
  clear hK K
  refine Wl.d ?_
  clear hHeld hH1 hH2 hH3 cB cB2 cB5 HS HP
  go_wp2_with fail
  obtain ⟨hJ, hJx, hY, h0, hc1, gB1, gY1, hz1, hu1, hgood, hpl, hWs, hW2⟩ := HH.out
  obtain ⟨gB2, gY2, -, hz2, hu2⟩ := H2.out
  have hz5 := hb5.size
  have gY5 := (hb5.block _ (lt_of_block gY2)).trans gY2
  have hyl := HW.out.2
  have hU5 : Upd (fun _ => False) W w5 := (hu1.trans (Upd.refl (fun _ => False) w1).drew).trans (hu2.trans (Upd.of_below hb5))
  obtain ⟨S5, hS5⟩ : ∃ S5 : Nat → Prop, S5 = fun j => dirS lb M1 w5 j ∨ w5.heap.size ≤ j := ⟨_, rfl⟩
  have hup : ∀ j, w5.heap.size ≤ j → S5 j := fun j hj => by rw [hS5]; exact .inr hj
  have hnS : ∀ {j : Nat} {cs : Array Value} {t : TypeId} {z : Nat × Nat}, w5.heap[j]? = some (.cells cs t z) → t ≠ 3 → j ≠ lb → j ≠ M1 → ¬ S5 j := fun hj ht h1 h2 hs => by
    rw [hS5] at hs
    rcases hs with (hs | hs | ⟨cs', z', hs⟩) | hs
    · exact h1 hs
    · exact h2 hs
    · rw [hj] at hs; cases hs; exact ht rfl
    · have := lt_of_block hj; omega
  obtain ⟨qs, hqs⟩ : ∃ qs, qs = spanL a.ps 0 n.bl := ⟨_, rfl⟩
  rw [← hqs] at hcs hcl5 hgood hsl hY
  have hdv : dmI (vis qs 0) = dirtL a.ps := by rw [hqs]; exact dmI_vis hpl
  have hgS : ¬ S5 g := hnS hg (by decide) (by omega) (by omega)
  have hBpS : ¬ S5 Bp := hnS hBp (by decide) (by omega) (by omega)
  have hyS : ¬ S5 yb := hnS gY5 (by decide) (by omega) (by omega)
  have hJw : ∀ r, w5.heap.size ≤ r → W.heap.size ≤ r := fun r hr => by omega
  have hnew : ∀ {J' : List Nat → World → Prop} {s : List Nat} {X Y : World}, OwnFrom W.heap.size J' → J' s X → Upd (fun _ => False) X Y → J' s Y := fun hJ' h hu => hJ' _ _ _ none h ⟨hu.os, hu.tape, hu.output, hu.size, fun k hk _ => hu.block k hk (fun h => h)⟩ (fun r e => by cases e)
  have h05 : J [] w5 := hnew hJ h0 hU5
  have hkp : ∀ {X Y : World}, Upd S5 w5 X → KpD lb M1 X Y → Upd S5 X Y ∧ KeepsFrom w5.heap.size X Y := fun {X Y} hu hk => by
    have hin : ∀ j, dirS lb M1 X j → S5 j := fun j hd => by
      rw [hS5]
      by_cases hj : j < w5.heap.size
      · by_cases hs : S5 j
        · rw [hS5] at hs; exact hs
        · exact .inl (dirS_back hu hj hs hd)
      · exact .inr (by omega)
    refine ⟨hk.mono (fun j _ hd => hin j hd), hk.size, fun k o hB hk1 ho => ?_⟩
    refine (hk.block k (Array.getElem?_eq_some_iff.1 hk1).1 (fun hd => ?_)).trans hk1
    rcases hd with hd | hd | ⟨cs', z', hd⟩
    · omega
    · omega
    · rw [hk1] at hd; cases hd; cases ho
  have HKP := Lib.hid (fun X Y => @hkp X Y)
  clear hkp
  have HN := Lib.hid (And.intro hdv (And.intro hyS (And.intro gY5 (And.intro hY (And.intro hJw hJ)))))
  have HJX := Lib.hid hJx
  clear hc1 gB1 gY1 hz1 hu1 gB2 gY2 hz2 hu2 hb5 hU5 hnS hBc h
  refine (wpIn_wide (n := 4)).1 ?_
  refine' wpIn_rangeFunc_ownH rfl (by omega) (gf := 196) (lb := #[.pointer (some ⟨Bs, 0, none⟩), .pointer (some ⟨Bp, 0, none⟩)]) rfl trivial (enters_of Tryz.func196 (by kernel_rfl) rfl)
    (it_stopsM _ (by omega) S5 Bs Bp g off cap qs 0 w5 hsl (by omega) hgood (lt_of_block hg) (lt_of_block hBp) hBs hgS hBpS hcs hcp hcl5) supd_t (fun W l o o' hl => supd_b (M := w5.heap.size) hup W l o o' hl) (Below.refl _ _) (fun _ => rfl)
    (fun pre X => J (dmI (pre.map (·.1))) X ∧ Upd S5 w5 X)
    (fun cc pre X => cc = .ret ∧ Jx (dmI (pre.map (·.1))) X ∧ Upd S5 w5 X)
    (fun pre X Y row hs hg hr => ⟨hJ _ X Y row hs.1 hg (fun r e => ⟨hJw r (hr r e).1, (hr r e).2⟩), upd_grown hs.2 hg (fun r e => hup r (hr r e).1)⟩)
    (fun cc pre X Y row hs hg hr => ⟨hs.1, hJx _ X Y row hs.2.1 hg (fun r e => ⟨hJw r (hr r e).1, (hr r e).2⟩), upd_grown hs.2.2 hg (fun r e => hup r (hr r e).1)⟩)
    ⟨h05, Upd.refl _ _⟩
    (fun x a' W => ∃ pb, a' = (_ : ItM qs 0 → Nat → Act) x pb ∧ plBox x.1 pb W)
    (fun x a' => fun s X Y row hs hg hr => by obtain ⟨pb, e, hp⟩ := hs; exact ⟨pb, e, plBox_own _ x.1 pb () X Y row hp hg hr⟩)
    ?assign ?body ?done ?stop
  case assign =>
    rintro l' pre x X K ⟨hj, hu⟩ hK
    gi_wp2
    have hun : Upd (fun _ => False) X (X.alloc (.cells #[.int .i64 x.1.2.1, .bool x.1.2.2] 108)) := (Upd.refl _ _).alloc _
    have hg0 := World.grownBy_alloc X (.cells #[.int .i64 x.1.2.1, .bool x.1.2.2] 108) none
    refine hK _ _ (KeepsFrom.of_grownBy hg0 (fun j e => by cases e)) (hun.mono (fun _ _ h => h.elim)) ⟨hnew hJ hj hun, hu.trans (hun.mono (fun _ _ h => h.elim))⟩ ⟨X.heap.size, ?_, heap_alloc_last X _ rfl⟩
    generalize X.heap.size = pb
    exact rfl
  case body =>
    rintro l' pre ⟨⟨xn, xs, xd⟩, hx⟩ a' X hl _ ⟨hj, hu⟩ ⟨pb, rfl, hp⟩ hlt
    obtain ⟨-, hyS, gY5, hY, -, -⟩ := HN.out
    have cp := cell_of_block (show X.heap[pb]? = _ from hp) 1
    have gy := (hu.block yb (lt_of_block gY5) hyS).trans gY5
    have cy := cell_of_block gy 0
    simp at cp cy
    rw [HW.out.2] at cy
    have HU := Lib.hid (And.intro hu hj)
    cases xd with
    | false =>
      have hD : dmI ((pre ++ [(⟨(xn, xs, false), hx⟩ : ItM qs 0)]).map (·.1)) = dmI (pre.map (·.1)) := by rw [List.map_append, dmI_app]; simp [dmI]
      have HD := Lib.hid hD
      clear hD hY gY5 gy cy hp hu hj
      gi_wp2
      refine ⟨fun _ h => (by cases h), ?_⟩
      gi_wp2
      exact ⟨KeepsFrom.refl _ _, Upd.refl _ _, by rw [HD.out]; exact HU.out.2, HU.out.1⟩
    | true =>
      have hD : dmI ((pre ++ [(⟨(xn, xs, true), hx⟩ : ItM qs 0)]).map (·.1)) = dmI (pre.map (·.1)) ++ [xn] := by rw [List.map_append, dmI_app]; simp [dmI]
      have HD := Lib.hid hD
      obtain ⟨fn, tmps, assign, body, hy, hR⟩ := yieldAt_any (m' := 4 - 1 - 1 - 1) (hY _ xn X hj (by have := dmI_len (pre.map (·.1)); rw [List.length_map] at this; omega))
      clear hD hY gY5 gy hp hu hj
      gi_wp2
      refine RoundIn.mono (F := Fence.wide.inRound l') (n := 1) hR ?_
      rintro e Y (⟨rfl, hJ3, hk3⟩ | ⟨rfl, hJx3, hk3⟩)
      · have H3 := Lib.hid (And.intro hJ3 (HKP.out _ _ HU.out.1 hk3))
        clear hJ3 hk3 hR
        gi_wp2
        exact ⟨H3.out.2.2, H3.out.2.1, by rw [HD.out]; exact H3.out.1, HU.out.1.trans H3.out.2.1⟩
      · have H3 := Lib.hid (And.intro hJx3 (HKP.out _ _ HU.out.1 hk3))
        clear hJx3 hk3 hR
        gi_wp2
        exact ⟨H3.out.2.2, rfl, by rw [HD.out]; exact H3.out.1, HU.out.1.trans H3.out.2.1⟩
  case done =>
    rintro D ys X hD hys ⟨hj, hu⟩ hK
    have hys' : dmI (ys.map (·.1)) = dirtL a.ps := by rw [show ys.map (·.1) = vis qs 0 from hys]; exact HN.out.1
    rw [hys'] at hj
    have hj2 : J (dirtL a.ps) (X.putObj D (.deferred none)) := HN.out.2.2.2.2.2.putObj _ hj (HN.out.2.2.2.2.1 D hD) hK rfl
    refine ⟨by simp, .inl ⟨_, _, rfl, run_takeDeferred hK, ?_⟩⟩
    exact ⟨_, results_none rfl _ _ _, ⟨_, rfl⟩, .inl ⟨_, rfl, hj2⟩⟩
  case stop =>
    rintro D cc pre X hD hsp ⟨rfl, hjx, hu⟩ hK
    have hj2 : Jx (dmI (pre.map (·.1))) (X.putObj D (.deferred none)) := HJX.out.putObj _ hjx (HN.out.2.2.2.2.1 D hD) hK rfl
    have hpr : dmI (pre.map (·.1)) <+: dirtL a.ps := by rw [← HN.out.1]; exact dmI_prefix hsp
    have HP := Lib.hid (And.intro hK (And.intro hj2 hpr))
    clear hK hj2 hpr hjx hu hsp
    gi_wp2
    refine ⟨by simp, .inl ⟨_, _, rfl, run_takeDeferred HP.out.1, ?_⟩⟩
    exact ⟨_, results_none rfl _ _ _, ⟨_, rfl⟩, .inr ⟨_, HP.out.2.2, HP.out.2.1⟩⟩
attribute [local go_sem] Oper.semAt_some
def boxesN (M : Nat) (pre : List Nat) (W : World) : Prop := ∃ v, Boxed W M 100 v ∧ W.ownsRow M 3 1 v pre.length (ints (pre.map Int.ofNat))
theorem boxesN_own (M : Nat) : Own (boxesN M) := by
  rintro s X Y row ⟨v, h1, h3⟩ hg hr
  exact ⟨v, boxed_kept h1 hg hr, row_kept h3 hg hr⟩
theorem kpd_append {lb M1 : Nat} {W w1 : World} {v v' : Value} {k : Nat} {xs : List Value} {tmp : Obj} (hrow : W.ownsRow lb 3 1 v k xs) (hgrow : (W.alloc tmp).grownBy w1 v.ownBlock) : KpD lb M1 W (w1.setCell ⟨lb, 0, none⟩ v') := by
  have hu1 : Upd (fun _ => False) W (W.alloc tmp) := (Upd.refl _ W).alloc _
  have hu2 : Upd (fun j => v.ownBlock = some j) (W.alloc tmp) w1 := Upd.of_grown hgrow (fun g e _ => e)
  have hu3 := upd_setCell w1 lb 0 v'
  refine ((hu1.mono (fun _ _ h => h.elim)).trans (hu2.mono (S' := dirS lb M1 W) (fun j hj e => ?_))).trans (hu3.mono (fun j _ e => .inl e))
  obtain ⟨-, ⟨rfl, -⟩ | ⟨g, cap, cur, rfl, -, hg, -⟩⟩ := hrow
  · cases e
  · cases e
    exact .inr (.inr ⟨_, _, hg⟩)
def IntsOut (w : World) (L : List Int) (e : Ending) (w' : World) : Prop := ∃ v, e = .returned v ∧ Sl w' 3 1 v L.length (ints L) ∧ From w.heap.size v ∧ Below w.heap.size w w'
section
variable {own : Nat → Nat} {w : World} {c : Nat} {n : CaN} {p : CaP} {a : CaS}
set_option maxRecDepth 100000 in
set_option maxHeartbeats 2000000 in
theorem wb_dirty (h : CaAt own w c n p a) : Calls Tryz.prog 41 #[ptr c] w (IntsOut w ((dirtL a.ps).map Int.ofNat)) := by
  obtain ⟨lb, hlb⟩ : ∃ lb, lb = w.heap.size := ⟨_, rfl⟩
  obtain ⟨w1, hw1⟩ : ∃ w1, w1 = w.alloc (.cells #[.slice none 0 0] 100) := ⟨_, rfl⟩
  obtain ⟨w2, hw2⟩ : ∃ w2, w2 = w1.alloc (.cells #[ptr c] 95) := ⟨_, rfl⟩
  have hu1 : Upd (fun _ => False) w w1 := by rw [hw1]; exact (Upd.refl _ w).alloc _
  have hu2 : Upd (fun _ => False) w1 w2 := by rw [hw2]; exact (Upd.refl _ w1).alloc _
  have hz1 : w1.heap.size = lb + 1 := by rw [hw1, hlb]; simp
  have hz2 : w2.heap.size = lb + 2 := by rw [hw2]; simp; omega
  have hB2 : Below lb w w2 := by rw [hlb, hw2, hw1]; exact ((Below.refl _ w).alloc (Nat.le_refl _) _).alloc (by simp) _
  have h2 := (h.new hu1).new hu2
  have gB : w2.heap[lb + 1]? = some (.cells #[ptr c] 95 (0, 0)) := by rw [hw2]; exact heap_alloc_last w1 _ hz1.symm
  have gL : w2.heap[lb]? = some (.cells #[.slice none 0 0] 100 (0, 0)) := hu2.blockv (by rw [hw1, hlb]; exact heap_alloc_last w _ rfl)
  have hvl : (vis (spanL a.ps 0 n.bl) 0).length ≤ 4096 := by
    have h1 := visTo_len (spanL a.ps 0 n.bl) 0 (spanL a.ps 0 n.bl).length
    have h3 := h.ok.b2
    have h4 : (spanL a.ps 0 n.bl).length ≤ n.bl := by simp [spanL]; omega
    exact Nat.le_trans h1 (by omega)
  have HO := Lib.hid (dirt_o h2 (lb + 1) lb (w2.heap.size + 1) gB (by omega) (by omega) (by omega) (4 - 1))
  have HD := Lib.hid (ca_dirty (w := w1) (c := c) trivial)
  obtain ⟨i0, hi, hz0, hzz, hzb⟩ := info_parts infoI9s
  have hbx0 : boxesN lb [] w2 := ⟨_, gL, World.ownsRow_nil _ _ _ _⟩
  have H0 := Lib.hid (And.intro hB2 (And.intro hz2 hlb))
  have HW := Lib.hid (And.intro hw1 hw2)
  clear h hu1 hu2 hz1 hB2 h2 gB gL hw1 hw2
  refine (callsIn_wide (n := 4)).1 ?_
  refine callsIn_of_wp_marks Tryz.func41 rfl trivial ?_ rfl
  simp only [Tryz.ntmps41, List.size_toArray, List.length_cons, List.length_nil, Nat.reduceAdd, Nat.reduceSub, Array.replicate_succ, Array.replicate_zero, List.push_toArray, List.append_toArray, List.nil_append, List.cons_append]
  refine wpIn_wide.2 ?_
  go_wp2_with fail
  rw [← HW.out.1, ← hlb]
  refine HD.out.mono ?_
  rintro e w3 ⟨rfl, hw3⟩
  rw [← HW.out.2] at hw3
  subst hw3
  rw [show w1.heap.size = lb + 1 from by rw [HW.out.1, hlb]; simp]
  clear HD hlb
  go_wp2_with fail
  refine (wpIn_wide (n := 4)).1 ?_
  refine' wpIn_rangeO (n := 4) (gf := 143) (lb := #[.pointer (some ⟨lb + 1, 0, none⟩)]) rfl (enters_of Tryz.func143 (by kernel_rfl) rfl)
    HO.out (fun h g => h.trans g) (fun W o o' _ _ => KpD.put W _) (Below.refl _ _) (fun _ => rfl)
    (fun pre X => boxesN lb pre X ∧ Below lb w X)
    (fun _ _ _ => False)
    (OwnFrom.and (Own.from (boxesN_own lb) _) (ownFrom_below (Nat.le_of_eq H0.out.2.2) (by have := H0.out.2.1; omega)))
    (fun _ _ _ _ _ hs _ _ => hs)
    ⟨hbx0, H0.out.1⟩
    (_ : Nat → Act)
    ?assign ?body ?done ?stop
  case assign =>
    rintro l' x X K hK
    gi_wp2
    exact hK
  case body =>
    rintro l' pre x X ⟨⟨v, hv, hr1⟩, hB⟩ hlt
    have hWs : lb ≤ X.heap.size := by have h1 := hB.size; have h2 := H0.out.2.2; omega
    have hcv := hv.cell
    gi_wp2_with (gi_at_builtin; refine wpListIn_append_own_at _ rfl _ _ 100 rfl lb 3 i0 (.int .i64 0) 1 8 Tryz.underlying100 hi hz0 hzz hzb rfl (by decide) _ _ _ rfl (hr1.alloc _) ⟨X.heap.size, 0, none⟩ 1 1 [.int .i64 (x : Int)] rfl rfl (cell_one_new _ _ _) (by simp [Value.oneCell']) (by unfold maxLen; omega) (by omega) (by simp; omega) ?_; intro v' w1' hown' hgrow _ hfrom; obtain ⟨gv, capv, rfl⟩ := ownsRow_succ hown'; obtain ⟨hv1, hv2, hrv, hk2, hb2⟩ := hv.appended (by decide) hr1 hWs (Nat.le_refl _) hown' hgrow; have hkp := kpd_append (M1 := w3.heap.size + 1) (v' := .slice (some ⟨gv, 0, none⟩) (pre.length + 1) capv) hr1 hgrow; have hc1 := hv1.cell; have hf1 := hv1.frozen)
    exact ⟨hk2.from _, hkp, ⟨_, hv2, by simpa [ints] using hrv⟩, hB.trans hb2⟩
  case stop =>
    rintro D cc pre X _ _ h _
    exact h.elim
  case done =>
    rintro D ys X hD rfl ⟨⟨v, hv, hr1⟩, hB⟩ hK
    have hsl := Sl.of_own hr1
    have hpo := upd_put X D (.deferred none)
    have hs2 : Sl (X.putObj D (.deferred none)) 3 1 v (dirtL a.ps).length (ints ((dirtL a.ps).map Int.ofNat)) := hsl.keep hpo (fun g hg e => by
      obtain ⟨-, ⟨rfl, -⟩ | ⟨g', cap, cur, rfl, -, hg', -⟩⟩ := hr1
      · cases hg
      · cases hg
        replace e : g' = D := e
        rw [e, hK] at hg'
        cases hg')
    have hfr : From w.heap.size v := fun g hg => by
      obtain ⟨-, ⟨rfl, -⟩ | ⟨g', cap, cur, rfl, hb, -, -⟩⟩ := hr1
      · cases hg
      · cases hg
        have := H0.out.2.2
        show w.heap.size ≤ g'
        omega
    have hb : Below w.heap.size w (X.putObj D (.deferred none)) := by
      have h2 := H0.out.2.1
      have h3 := H0.out.2.2
      exact below_upd (h3 ▸ hB) hpo (Nat.le_refl _) (fun k e => by omega)
    have dv := hv.cell
    have HF := Lib.hid (And.intro hK (And.intro hs2 (And.intro hfr hb)))
    clear hsl hpo hs2 hfr hb hK hr1 hB hv
    go_wp2
    refine ⟨by simp, .inl ⟨_, _, rfl, run_takeDeferred HF.out.1, ?_⟩⟩
    exact ⟨_, results_tmp rfl _ _ _, ⟨v, rfl, by rw [List.length_map]; exact HF.out.2.1, HF.out.2.2.1, HF.out.2.2.2⟩⟩
end
end Go.Proofs.YtnadilfobmgebaaGreatDoor
namespace Go.Proofs.YtnadilfobmgebaaGreatDoor
open Go Go.RowKit
def EachOut (St : Nat → World → Prop) (Er : Nat → Int → World → Prop) (m : Nat) (e : Ending) (w' : World) : Prop :=
  (e = .returned (.tuple #[.int .i64 (m : Int), .int .i64 0]) ∧ St m w') ∨ ∃ i cd, i < m ∧ cd ≠ 0 ∧ e = .returned (.tuple #[.int .i64 ((i : Nat) : Int), .int .i64 cd]) ∧ Er i cd w'
set_option maxRecDepth 100000 in
set_option maxHeartbeats 1000000 in
theorem wb_eachA {St : Nat → World → Prop} {Er : Nat → Int → World → Prop} (fd : Nat) (x y : Value) (l : List Nat) (v : Value) (lb : Nat) (w : World) (hent : ∀ args w, (callFunc fd args).run Tryz.prog w = .ok (.enter fd args) w) (hlen : l.length ≤ 4096)
    (hbox : ∀ i W, i ≤ l.length → St i W → W.cell? ⟨lb, 0, none⟩ = some v ∧ Sl W 3 1 v l.length (ints (l.map Int.ofNat)))
    (hdo : ∀ i (hi : i < l.length) W, St i W → Calls Tryz.prog fd #[.int .i64 (l[i] : Int), x, y] W fun e W' => ∃ cd, e = .returned (.int .i64 cd) ∧ ((cd = 0 ∧ St (i + 1) W') ∨ (cd ≠ 0 ∧ Er i cd W')))
    (h0 : St 0 w) : Calls Tryz.prog 90 #[.func (.func fd) #[] #[x, y], .pointer (some ⟨lb, 0, none⟩)] w (EachOut St Er l.length) := by
  have c0 := (hbox 0 w (Nat.zero_le _) h0).1
  obtain ⟨ao, cc, rfl⟩ := (hbox 0 w (Nat.zero_le _) h0).2.rd.nil_iff
  have HB := Lib.hid (And.intro hbox (And.intro hdo h0))
  clear hbox hdo h0
  go_enter Tryz.func90, Tryz.ntmps90
  go_wp2_with fail
  clear c0
  go_loopg [10] l.length (fun g i wr => ∃ k : Nat, k + g = l.length ∧ i = .int .i64 (k : Int) ∧ St k wr)
  case atStart => exact ⟨0, by omega, rfl, HB.out.2.2⟩
  case round =>
    obtain ⟨k, hk, rfl, hS⟩ := hrel
    obtain ⟨c0, hs⟩ := HB.out.1 k _ (by omega) hS
    by_cases hlt : k < l.length
    · have hrd := hs.rd
      obtain ⟨g, off, c', hv, hg, hc⟩ := hrd.at (by omega)
      cases hv
      have hcj := hc k _ (get_ints (by rw [List.length_map]; exact hlt))
      rw [List.getElem_map] at hcj
      replace hcj : _ = some (Value.int .i64 (l[k] : Int)) := hcj
      have HC := Lib.hid (HB.out.2.1 k hlt _ hS)
      generalize (l[k] : Int) = x0 at *
      have q1 : (k : Int) < (l.length : Int) := by omega
      have HS := Lib.hid hlt
      clear hs hrd hc hS hg hlt
      go_wp2_with fail
      refine HC.out.mono ?_
      rintro e w2 ⟨cd, rfl, ⟨rfl, hS2⟩ | ⟨hne, hE⟩⟩
      · have H2 := Lib.hid hS2
        clear hS2 HC c0 hcj
        go_wp2
        go_roundg (gk - 1)
        case measure => omega
        case rel => exact ⟨k + 1, by omega, by go_num, H2.out⟩
      · have q0 : (cd == 0) = false := by simpa using hne
        have H2 := Lib.hid (And.intro hne hE)
        clear hne hE HC c0 hcj
        go_wp2
        go_ret2
        exact .inr ⟨k, cd, HS.out, H2.out.1, rfl, H2.out.2⟩
    · obtain rfl : k = l.length := by omega
      have HS := Lib.hid hS
      clear hs hS
      go_wp2
      go_ret2
      exact .inl ⟨rfl, HS.out⟩
set_option maxRecDepth 100000 in
set_option maxHeartbeats 1000000 in
theorem wb_eachB {St : Nat → World → Prop} {Er : Nat → Int → World → Prop} (fd : Nat) (x : Value) (l : List Nat) (v : Value) (lb : Nat) (w : World) (hent : ∀ args w, (callFunc fd args).run Tryz.prog w = .ok (.enter fd args) w) (hlen : l.length ≤ 4096)
    (hbox : ∀ i W, i ≤ l.length → St i W → W.cell? ⟨lb, 0, none⟩ = some v ∧ Sl W 3 1 v l.length (ints (l.map Int.ofNat)))
    (hdo : ∀ i (hi : i < l.length) W, St i W → Calls Tryz.prog fd #[x, .int .i64 (l[i] : Int)] W fun e W' => ∃ cd, e = .returned (.int .i64 cd) ∧ ((cd = 0 ∧ St (i + 1) W') ∨ (cd ≠ 0 ∧ Er i cd W')))
    (h0 : St 0 w) : Calls Tryz.prog 90 #[.func (.func fd) #[x] #[], .pointer (some ⟨lb, 0, none⟩)] w (EachOut St Er l.length) := by
  have c0 := (hbox 0 w (Nat.zero_le _) h0).1
  obtain ⟨ao, cc, rfl⟩ := (hbox 0 w (Nat.zero_le _) h0).2.rd.nil_iff
  have HB := Lib.hid (And.intro hbox (And.intro hdo h0))
  clear hbox hdo h0
  go_enter Tryz.func90, Tryz.ntmps90
  go_wp2_with fail
  clear c0
  go_loopg [10] l.length (fun g i wr => ∃ k : Nat, k + g = l.length ∧ i = .int .i64 (k : Int) ∧ St k wr)
  case atStart => exact ⟨0, by omega, rfl, HB.out.2.2⟩
  case round =>
    obtain ⟨k, hk, rfl, hS⟩ := hrel
    obtain ⟨c0, hs⟩ := HB.out.1 k _ (by omega) hS
    by_cases hlt : k < l.length
    · have hrd := hs.rd
      obtain ⟨g, off, c', hv, hg, hc⟩ := hrd.at (by omega)
      cases hv
      have hcj := hc k _ (get_ints (by rw [List.length_map]; exact hlt))
      rw [List.getElem_map] at hcj
      replace hcj : _ = some (Value.int .i64 (l[k] : Int)) := hcj
      have HC := Lib.hid (HB.out.2.1 k hlt _ hS)
      generalize (l[k] : Int) = x0 at *
      have q1 : (k : Int) < (l.length : Int) := by omega
      have HS := Lib.hid hlt
      clear hs hrd hc hS hg hlt
      go_wp2_with fail
      refine HC.out.mono ?_
      rintro e w2 ⟨cd, rfl, ⟨rfl, hS2⟩ | ⟨hne, hE⟩⟩
      · have H2 := Lib.hid hS2
        clear hS2 HC c0 hcj
        go_wp2
        go_roundg (gk - 1)
        case measure => omega
        case rel => exact ⟨k + 1, by omega, by go_num, H2.out⟩
      · have q0 : (cd == 0) = false := by simpa using hne
        have H2 := Lib.hid (And.intro hne hE)
        clear hne hE HC c0 hcj
        go_wp2
        go_ret2
        exact .inr ⟨k, cd, HS.out, H2.out.1, rfl, H2.out.2⟩
    · obtain rfl : k = l.length := by omega
      have HS := Lib.hid hS
      clear hs hS
      go_wp2
      go_ret2
      exact .inl ⟨rfl, HS.out⟩
def CaS.back1 (n : CaN) (a : CaS) (k : Nat) : CaS × Int :=
  if (a.readB n (k : Int)).2.2 ≠ 0 then ((a.readB n (k : Int)).1, (a.readB n (k : Int)).2.2)
  else ((a.readB n (k : Int)).1.bdev (writeR (a.readB n (k : Int)).1.bF (a.readB n (k : Int)).1.bO (a.readB n (k : Int)).1.bP k (a.readB n (k : Int)).2.1), (writeR (a.readB n (k : Int)).1.bF (a.readB n (k : Int)).1.bO (a.readB n (k : Int)).1.bP k (a.readB n (k : Int)).2.1).cd)
theorem CaS.backs_cons (n : CaN) (k : Nat) (l : List Nat) (a : CaS) : CaS.backs n (k :: l) a = if (a.back1 n k).2 ≠ 0 then a.back1 n k else CaS.backs n l (a.back1 n k).1 := by
  by_cases h : (a.readB n (k : Int)).2.2 = 0
  · have e : a.back1 n k = ((a.readB n (k : Int)).1.bdev (writeR (a.readB n (k : Int)).1.bF (a.readB n (k : Int)).1.bO (a.readB n (k : Int)).1.bP k (a.readB n (k : Int)).2.1), (writeR (a.readB n (k : Int)).1.bF (a.readB n (k : Int)).1.bO (a.readB n (k : Int)).1.bP k (a.readB n (k : Int)).2.1).cd) := by
      unfold CaS.back1
      rw [if_neg (fun e => e h)]
    rw [e]
    simp only [CaS.backs]
    rw [if_neg (fun e => e h)]
  · have e : a.back1 n k = ((a.readB n (k : Int)).1, (a.readB n (k : Int)).2.2) := by
      unfold CaS.back1
      rw [if_pos h]
    rw [e, if_pos h]
    simp only [CaS.backs]
    rw [if_pos h]
theorem readB_bF (n : CaN) (a : CaS) (k : Int) : (a.readB n k).1.bF = a.bF ∧ (a.readB n k).1.bO = a.bO ∧ (a.readB n k).1.dO = a.dO := by
  unfold CaS.readB CaS.readS
  repeat' split
  all_goals exact ⟨rfl, rfl, rfl⟩
section
variable {own : Nat → Nat} {w w' : World} {c : Nat} {n : CaN} {p : CaP} {a : CaS} {N : Nat}
set_option maxRecDepth 100000 in
set_option maxHeartbeats 1000000 in
theorem wb_back1 (h : CaAt own w c n p a) (g1 g2 : Nat) (c1 : w.cell? ⟨g1, 0, none⟩ = some (ptr c)) (c2 : w.cell? ⟨g2, 0, none⟩ = some (ptr p.back)) (o2 : own g2 = 0) (k : Nat) (hk : k < n.bl) (hO : a.bO.length < 65536) :
    Calls Tryz.prog 91 #[.int .i64 (k : Int), ptr g1, ptr g2] w (CaOut own w c n p (a.back1 n k).1 (.int .i64 (a.back1 n k).2)) := by
  have HR := Lib.hid (ca_read h (k : Int))
  obtain ⟨R, hR⟩ : ∃ R, R = a.back1 n k := ⟨_, rfl⟩
  rw [← hR]
  unfold CaS.back1 at hR
  obtain ⟨e1, e2, -⟩ := readB_bF n a (k : Int)
  have hbl : (a.readB n (k : Int)).1.bO.length < 65536 := by rw [e2]; exact hO
  generalize a.readB n (k : Int) = r at *
  obtain ⟨b, y0, cd0⟩ := r
  simp only at HR hR hbl
  have H := Lib.hid (And.intro o2 (And.intro hk (And.intro hbl h.gl)))
  replace hR := Lib.hid hR
  have hg2 := (addr_of_cell c2).2
  have HC := Lib.hid (And.intro c2 hg2)
  clear o2 hk hO hbl e1 e2 h hg2
  go_enter Tryz.func91, Tryz.ntmps91
  go_wp2_with fail
  refine HR.out.mono ?_
  rintro e w5 ⟨y, cd, hy, hcd, hyl, rfl, own5, h5, d5⟩
  have c25 := (d5.upd.cellAt HC.out.2 (fun hs => hs.1 H.out.1)).trans HC.out.1
  obtain ⟨w6, hw6⟩ : ∃ w6, w6 = w5.alloc (.cells (bkC y).toArray 23) := ⟨_, rfl⟩
  have hu6 : Upd (fun _ => False) w5 w6 := by rw [hw6]; exact (Upd.refl _ w5).alloc _
  have g6 : w6.heap[w5.heap.size]? = some (.cells (bkC y).toArray 23 (0, 0)) := by rw [hw6]; exact heap_alloc_last w5 _ rfl
  obtain ⟨gb, hgb⟩ : ∃ gb, gb = w5.heap.size := ⟨_, rfl⟩
  rw [← hgb] at g6
  have r6 := range_of_block g6
  have c26 := hu6.cellv c25 (fun h => h)
  have hgl5 := h5.gl
  have H6 := Lib.hid (And.intro (h5.new hu6) (d5.trans (h5.didNew hu6)))
  have HW6 := Lib.hid (And.intro hw6 hgb)
  have hsi := sizeBk y hyl
  have hut := Tryz.underlying23
  have HB := Lib.hid (ca_back_write H6.out.1 k (by rw [hgl5]; exact H.out.2.1) y hyl H.out.2.2.1)
  have HY := Lib.hid (And.intro hy hcd)
  clear h5 d5 hu6 g6 hw6 hgb hy hcd HR c25 hgl5 c1
  by_cases hc : cd = 0
  · subst hc
    go_wp2_with (first
      | (refine wpList_store_new rfl _ _ _ rfl _ _ (bkC y) rfl rfl (by rw [bkC_len, hyl]; rfl) hsi (bkC_one y) ?_; rw [← HW6.out.1, ← HW6.out.2])
      | (refine wpList_load_mid rfl _ _ rfl _ _ rfl _ _ r6 hut rfl hsi ?_)
      | fail)
    refine HB.out.mono ?_
    rintro e w7 ⟨rfl, own7, h7, d7⟩
    have H7 := Lib.hid (And.intro h7 (H6.out.2.trans d7))
    clear h7 d7 HB r6 c26
    go_wp2
    go_ret
    have hr := hR.out
    rw [← HY.out.1, ← HY.out.2] at hr
    replace hr : R = if (0 : Int) ≠ 0 then _ else _ := hr
    rw [if_neg (fun e => e rfl)] at hr
    rw [hr]
    exact ⟨rfl, own7, H7.out.1, H7.out.2⟩
  · have q0 : (cd == 0) = false := by simpa using hc
    go_wp2_with (first
      | (refine wpList_store_new rfl _ _ _ rfl _ _ (bkC y) rfl rfl (by rw [bkC_len, hyl]; rfl) hsi (bkC_one y) ?_; rw [← HW6.out.1, ← HW6.out.2])
      | fail)
    go_ret
    have hr := hR.out
    rw [← HY.out.1, ← HY.out.2] at hr
    replace hr : R = if cd ≠ 0 then (b, cd) else _ := hr
    rw [if_pos hc] at hr
    rw [hr]
    exact ⟨rfl, own5, H6.out.1, H6.out.2⟩
end
section
variable {n : CaN} {a : CaS} {N : Nat}
theorem ite_ne {α : Type} {x : Int} {p q : α} (h : x = 0) : (if x ≠ 0 then p else q) = q := if_neg (fun e => e h)
theorem ite_yes {α : Type} {x : Int} {p q : α} (h : ¬ x = 0) : (if x ≠ 0 then p else q) = p := if_pos h
theorem CaS.backs_snoc (n : CaN) (k : Nat) : ∀ (l : List Nat) (a : CaS), CaS.backs n (l ++ [k]) a = if (CaS.backs n l a).2 ≠ 0 then CaS.backs n l a else (CaS.backs n l a).1.back1 n k
  | [], a => by
    have e : (if (CaS.backs n [] a).2 ≠ 0 then CaS.backs n [] a else (CaS.backs n [] a).1.back1 n k) = a.back1 n k := ite_ne rfl
    rw [e, List.nil_append, CaS.backs_cons]
    by_cases h : (a.back1 n k).2 = 0
    · rw [ite_ne h]
      exact Prod.ext rfl h.symm
    · rw [ite_yes h]
  | x :: l, a => by
    rw [List.cons_append]
    by_cases h : (a.back1 n x).2 = 0
    · have e : ∀ l', CaS.backs n (x :: l') a = CaS.backs n l' (a.back1 n x).1 := fun l' => by rw [CaS.backs_cons, ite_ne h]
      rw [e, e]
      exact CaS.backs_snoc n k l _
    · have e : ∀ l', CaS.backs n (x :: l') a = a.back1 n x := fun l' => by rw [CaS.backs_cons, ite_yes h]
      rw [e, e, ite_yes h]
theorem CaS.backs_err (n : CaN) (l' : List Nat) : ∀ (l : List Nat) (a : CaS), (CaS.backs n l a).2 ≠ 0 → CaS.backs n (l ++ l') a = CaS.backs n l a
  | [], a, h => absurd rfl h
  | x :: l, a, h => by
    rw [List.cons_append, CaS.backs_cons, CaS.backs_cons]
    rw [CaS.backs_cons] at h
    by_cases hx : (a.back1 n x).2 = 0
    · rw [if_neg (fun e => e hx)] at h
      rw [if_neg (fun e => e hx), if_neg (fun e => e hx)]
      exact CaS.backs_err n l' l _ h
    · rw [if_pos hx, if_pos hx]
theorem CaS.back1_fit (h : a.Fit N) (k : Nat) : (a.back1 n k).1.Fit (N + 1) ∧ (a.back1 n k).1.ps = a.ps ∧ (a.back1 n k).1.st = a.st ∧ (a.back1 n k).1.K = a.K ∧ (a.back1 n k).1.next = a.next := by
  have h1 : (a.readB n (k : Int)).1.Fit N ∧ (a.readB n (k : Int)).1.ps = a.ps ∧ (a.readB n (k : Int)).1.st = a.st ∧ (a.readB n (k : Int)).1.K = a.K ∧ (a.readB n (k : Int)).1.next = a.next := by
    unfold CaS.readB CaS.readS
    repeat' split
    all_goals exact ⟨{ h with }, rfl, rfl, rfl, rfl⟩
  unfold CaS.back1
  generalize a.readB n (k : Int) = r at *
  split
  · exact ⟨h1.1.mono (Nat.le_succ N), h1.2⟩
  · have hw := writeR_O r.1.bF r.1.bO r.1.bP k r.2.1
    have hb := h1.1.bO
    exact ⟨{ h1.1.mono (Nat.le_succ N) with bO := by show (writeR r.1.bF r.1.bO r.1.bP k r.2.1).O.length ≤ N + 1; omega }, h1.2⟩
theorem CaS.backs_fit : ∀ (l : List Nat) {a : CaS} {N : Nat}, a.Fit N → (CaS.backs n l a).1.Fit (N + l.length) ∧ (CaS.backs n l a).1.ps = a.ps ∧ (CaS.backs n l a).1.st = a.st ∧ (CaS.backs n l a).1.K = a.K ∧ (CaS.backs n l a).1.next = a.next
  | [], a, N, h => ⟨h, rfl, rfl, rfl, rfl⟩
  | x :: l, a, N, h => by
    obtain ⟨h1, h2, h3, h4, h5⟩ := CaS.back1_fit (n := n) h x
    rw [CaS.backs_cons]
    split
    · exact ⟨h1.mono (by rw [List.length_cons]; omega), h2, h3, h4, h5⟩
    · obtain ⟨g1, g2, g3, g4, g5⟩ := CaS.backs_fit l h1
      exact ⟨g1.mono (by rw [List.length_cons]; omega), g2.trans h2, g3.trans h3, g4.trans h4, g5.trans h5⟩
def CaS.clean1 (n : CaN) (k : Nat) (m : Nat) (r : CaS) : CaS × Nat × Int := if (r.cleaned n (k : Int)).2 ≠ 0 then ((r.cleaned n (k : Int)).1, m, (r.cleaned n (k : Int)).2) else ((r.cleaned n (k : Int)).1, m + 1, 0)
theorem CaS.cleans_snoc (n : CaN) (k : Nat) : ∀ (l : List Nat) (i : Nat) (a : CaS), CaS.cleans n (l ++ [k]) i a = if (CaS.cleans n l i a).2.2 ≠ 0 then CaS.cleans n l i a else CaS.clean1 n k (i + l.length) (CaS.cleans n l i a).1
  | [], i, a => by
    have e : (if (CaS.cleans n [] i a).2.2 ≠ 0 then CaS.cleans n [] i a else CaS.clean1 n k (i + ([] : List Nat).length) (CaS.cleans n [] i a).1) = CaS.clean1 n k i a := ite_ne rfl
    rw [e]
    rfl
  | x :: l, i, a => by
    rw [List.cons_append]
    by_cases h : (a.cleaned n (x : Int)).2 = 0
    · have e : ∀ l', CaS.cleans n (x :: l') i a = CaS.cleans n l' (i + 1) (a.cleaned n (x : Int)).1 := fun l' => by simp only [CaS.cleans]; exact ite_ne h
      rw [e, e, CaS.cleans_snoc n k l (i + 1), List.length_cons, show i + 1 + l.length = i + (l.length + 1) by omega]
    · have e : ∀ l', CaS.cleans n (x :: l') i a = ((a.cleaned n (x : Int)).1, i, (a.cleaned n (x : Int)).2) := fun l' => by simp only [CaS.cleans]; exact ite_yes h
      rw [e, e]
      exact (ite_yes (x := (a.cleaned n (x : Int)).2) h).symm
theorem CaS.cleans_err (n : CaN) (l' : List Nat) : ∀ (l : List Nat) (i : Nat) (a : CaS), (CaS.cleans n l i a).2.2 ≠ 0 → CaS.cleans n (l ++ l') i a = CaS.cleans n l i a
  | [], i, a, h => absurd rfl h
  | x :: l, i, a, h => by
    rw [List.cons_append]
    simp only [CaS.cleans] at h ⊢
    by_cases hx : (a.cleaned n (x : Int)).2 = 0
    · rw [if_neg (fun e => e hx)] at h
      rw [if_neg (fun e => e hx), if_neg (fun e => e hx)]
      exact CaS.cleans_err n l' l _ _ h
    · rw [if_pos hx, if_pos hx]
theorem CaS.cleans_fit : ∀ (l : List Nat) (i : Nat) {a : CaS} {N : Nat}, a.Fit N → 1 ≤ a.next → a.Tie n none → (CaS.cleans n l i a).1.Fit (N + l.length * (n.pa + 1)) ∧ 1 ≤ (CaS.cleans n l i a).1.next ∧ (CaS.cleans n l i a).1.Tie n none
  | [], i, a, N, h, h1, ht => ⟨h.mono (by simp), h1, ht⟩
  | x :: l, i, a, N, h, h1, ht => by
    have hf := h.cleaned (n := n) h1 (x : Int)
    have hx := Nat.le_trans h1 (CaS.cleaned_next n a (x : Int))
    have hT := CaS.Tie.cleaned ht (x : Int)
    have e : (x :: l).length * (n.pa + 1) = l.length * (n.pa + 1) + (n.pa + 1) := by rw [List.length_cons, Nat.succ_mul]
    simp only [CaS.cleans]
    split
    · exact ⟨hf.mono (by omega), hx, hT⟩
    · obtain ⟨g1, g2, g3⟩ := CaS.cleans_fit l (i + 1) hf hx hT
      exact ⟨g1.mono (by omega), g2, g3⟩
end
end Go.Proofs.YtnadilfobmgebaaGreatDoor
