/- A cache: spare. A cache: Evict. A cache: take. -/
import Derived.Test.YtnadilfobmgebaaGreatDoorH22
namespace Go.Proofs.YtnadilfobmgebaaGreatDoor
open Go Go.RowKit Go.Shelf
attribute [local go_sem] Oper.semAt_some
def CaS.spareB (a : CaS) : Bool := a.K.any (cleanB a.ps)
theorem kaL_fst (K : List Int) (A : Int → Bool) : (kaL K A).map (·.1) = K := by
  simp [kaL, Function.comp_def]
def SpX (ps : List (Int × Bool)) (wz : World) (rb : Nat) (cc : Code) (pre : List It7) (W : World) : Prop :=
  cc = .ret ∧ (∃ x ∈ pre, cleanB ps x.1 = true) ∧ Boxed W rb 4 (.bool true) ∧ Upd (fun j => j = rb ∨ wz.heap.size ≤ j) wz W
set_option maxRecDepth 100000 in
set_option maxHeartbeats 1000000 in
theorem ca_spare {own : Nat → Nat} {w : World} {c : Nat} {n : CaN} {p : CaP} {a : CaS} (h : CaAt own w c n p a) :
    Calls Tryz.prog 244 #[ptr c] w fun e w' => e = .returned (.bool a.spareB) ∧ Below w.heap.size w w' := by
  obtain ⟨w1, hw1⟩ : ∃ w1, w1 = (w.alloc (.cells #[ptr c] 95)).alloc (.cells #[.bool false] 4) := ⟨_, rfl⟩
  have hu1 : Upd (fun _ => False) w w1 := by rw [hw1]; exact ((Upd.refl _ w).alloc _).alloc _
  have g0 : w1.heap[w.heap.size]? = some (.cells #[ptr c] 95 (0, 0)) := by rw [hw1]; exact (Below.heap_alloc _ _ _ (by simp)).trans (heap_alloc_last w _ rfl)
  have g1 : w1.heap[w.heap.size + 1]? = some (.cells #[.bool false] 4 (0, 0)) := by rw [hw1]; exact heap_alloc_last _ _ (by simp)
  have hz1 : w1.heap.size = w.heap.size + 2 := by rw [hw1]; simp
  have h1 := h.new hu1
  have hcl := h.clt
  obtain ⟨-, -, -, -, -, -, -, d7, -⟩ := h.cells
  have HA := Lib.hid (kall_gives h1.ck)
  have H1 := Lib.hid (And.intro h1 (And.intro hu1 (And.intro g0 g1)))
  clear h h1 hu1 g0 g1
  refine (callsIn_wide (n := 4)).1 ?_
  refine callsIn_of_wp_marks Tryz.func244 rfl trivial ?_ rfl
  simp only [Tryz.ntmps244, List.size_toArray, List.length_cons, List.length_nil, Nat.reduceAdd, Nat.reduceSub, Array.replicate_succ, Array.replicate_zero, List.push_toArray, List.append_toArray, List.nil_append, List.cons_append]
  refine wpIn_wide.2 ?_
  go_wp2_with fail
  rw [← hw1]
  clear hw1 d7
  refine HA.out.mono ?_
  rintro e w2 ⟨gf, lb, rfl, hg, hb2⟩
  have hz2 := hb2.size
  have HU2 : Hid (Upd (fun _ => False) w1 w2) := Upd.of_below hb2
  have HG := Lib.hid hg
  clear HA hg
  go_wp2_with fail
  refine (wpIn_wide (n := 4)).1 ?_
  refine' wpIn_rangeFunc_ownH rfl (by omega) (gf := gf) (lb := lb) rfl trivial HG.out.1
    (HG.out.2 3 (by omega) (fun j => w2.heap.size ≤ j) (fun j h => h) _ (Below.refl _ _)) supd_t (fun W l o o' hl => supd_b (M := w2.heap.size) (fun j h => h) W l o o' hl) (Below.refl _ _) (fun _ => rfl)
    (fun pre W => Below w2.heap.size w2 W ∧ ∀ x ∈ pre, cleanB a.ps x.1 = false)
    (SpX a.ps w2 (w.heap.size + 1))
    (fun pre X Y row hs hg hr => ⟨ownFrom_below (β := Unit) (Nat.le_refl _) (Nat.le_refl _) () X Y row hs.1 hg hr, hs.2⟩)
    (fun cc pre X Y row hs hg hr => ⟨hs.1, hs.2.1, (grownBy_keeps_cells hg (fun r e => (hr r e).2) hs.2.2.1 rfl).trans hs.2.2.1, upd_grown hs.2.2.2 hg (fun r e => .inr (hr r e).1)⟩)
    ⟨Below.refl _ _, fun x hx => by cases hx⟩
    (fun x a' _ => a' = (_ : It7 → Act) x)
    (fun x a' => fun s X Y row hs hg hr => hs)
    ?assign ?body ?done ?stop
  case assign =>
    rintro l' pre x W K ⟨hB, hn⟩ hK
    gi_wp2
    refine hK _ _ (KeepsFrom.refl _ _) (Upd.refl _ _) ⟨hB, hn⟩ ?_
    exact rfl
  case body =>
    rintro l' pre x a' W hl _ ⟨hB, hn⟩ rfl hlt
    have hu : Upd (fun _ => False) w1 W := HU2.out.trans (Upd.of_below hB)
    obtain ⟨h1, -, g0, g1⟩ := H1.out
    have hcb := ca_isclean (h1.new hu) x.1
    have g0' := hu.blockv g0
    have g1' := hu.blockv g1
    have c0 := cell_of_block g0' 0
    have HC := Lib.hid hcb
    have HB := Lib.hid (And.intro hB (And.intro hn g1'))
    clear h1 g0 g1 hcb g0' g1' hB hn hu
    gi_wp2_with fail
    refine ⟨trivial, ?_⟩
    refine (CallsIn.inRound l' (callsIn_wide.2 HC.out)).mono ?_
    rintro e W2 ⟨rfl, hb3⟩
    obtain ⟨hB, hn, g1'⟩ := HB.out
    have g2 := (hb3.block _ (lt_of_block g1')).trans g1'
    have c2 := cell_of_block g2 0
    have f2 := frozen_of_block g2 0
    have hB2 : Below w2.heap.size w2 W2 := hB.trans (hb3.mono hB.size)
    have hKO : KeepsOthers W W2 := ⟨hb3.size, fun k o hk ho => (hb3.block k (lt_of_block hk)).trans hk⟩
    have HN := Lib.hid hn
    have HB2 := Lib.hid (And.intro hB2 (And.intro hKO (And.intro g2 hb3)))
    clear hB hn g1' g2 hB2 hKO hb3 HC c0
    rcases hq : cleanB a.ps x.1 with _ | _
    · have HQ := Lib.hid hq
      clear hq
      gi_wp2
      obtain ⟨hB2, hKO, g2, hb3⟩ := HB2.out
      refine ⟨hKO.from _, Upd.of_below hb3, hB2, fun y hy => ?_⟩
      rcases List.mem_append.1 hy with hy | hy
      · exact HN.out y hy
      · simp at hy; subst hy; exact HQ.out
    · have HQ := Lib.hid hq
      clear hq
      gi_wp2
      obtain ⟨hB2, hKO, g2, hb3⟩ := HB2.out
      have hus := upd_setCell W2 (w.heap.size + 1) 0 (.bool true)
      refine ⟨(hKO.trans (keepsOthers_cells hus (fun j hj _ => ⟨_, _, _, hj ▸ g2⟩))).from _, rfl, ⟨x, by simp, HQ.out⟩, Boxed.set (.bool true) (show Boxed W2 (w.heap.size + 1) 4 (.bool false) from g2), ?_⟩
      exact (Upd.of_below hB2).trans (hus.mono (fun _ _ h => .inl h))
  case done =>
    rintro D ys W hD rfl ⟨hB, hn⟩ hK
    have hu : Upd (fun _ => False) w1 W := HU2.out.trans (Upd.of_below hB)
    have g1 := hu.blockv H1.out.2.2.2
    have c1 := cell_of_block g1 0
    have f1 := frozen_of_block g1 0
    have hsp : a.spareB = false := by
      unfold CaS.spareB
      rw [List.any_eq_false]
      intro k hk
      have hk' : k ∈ (kaL a.K a.A).map (·.1) := by rw [kaL_fst]; exact hk
      obtain ⟨x, hx, rfl⟩ := List.mem_map.1 hk'
      rw [hn x hx]; decide
    have HS := Lib.hid (And.intro hsp (And.intro hK (And.intro hu (And.intro g1 hD))))
    clear hsp hK hu g1 hn hB hD
    go_wp2
    obtain ⟨hsp, hK, hu, g1, hD⟩ := HS.out
    have hus := upd_setCell W (w.heap.size + 1) 0 (.bool false)
    have hDl := lt_of_block hK
    have hK2 : (W.setCell ⟨w.heap.size + 1, 0, none⟩ (.bool false)).heap[D]? = some (.deferred (some [])) := (hus.block D hDl (by omega)).trans hK
    have g2 := heap_setCell_same g1 0 (.bool false)
    have hpo := upd_put (W.setCell ⟨w.heap.size + 1, 0, none⟩ (.bool false)) D (.deferred none)
    have c3 := cell_of_block ((hpo.block _ (lt_of_block g2) (by omega)).trans g2) 0
    refine ⟨by simp, .inl ⟨_, _, rfl, run_takeDeferred hK2, ?_⟩⟩
    refine ⟨.bool false, by simp [results, Tryz.results244, go_sem, c3], by rw [hsp], ?_⟩
    have hX := (hu.mono (S' := fun j => w.heap.size ≤ j) (fun _ _ h => h.elim)).trans ((hus.mono (fun j _ e => by omega)).trans (hpo.mono (fun j _ e => by omega)))
    exact below_upd (Below.refl _ _) ((H1.out.2.1.mono (S' := fun j => w.heap.size ≤ j) (fun _ _ h => h.elim)).trans hX) (Nat.le_refl _) (fun k h => h)
  case stop =>
    rintro D cc pre W hD hsp ⟨rfl, ⟨x, hx, hq⟩, hb, hu⟩ hK
    have hsp2 : a.spareB = true := by
      unfold CaS.spareB
      rw [List.any_eq_true]
      refine ⟨x.1, ?_, hq⟩
      rw [← kaL_fst a.K a.A]
      exact List.mem_map.2 ⟨x, hsp.subset hx, rfl⟩
    have hX : Upd (fun j => w.heap.size ≤ j) w W := ((H1.out.2.1.trans HU2.out).mono (fun _ _ h => h.elim)).trans (hu.mono (fun j _ h => by omega))
    have hpo := upd_put W D (.deferred none)
    have c3 := cell_of_block ((hpo.block _ (lt_of_block hb) (by omega)).trans hb) 0
    have HS := Lib.hid (And.intro hsp2 (And.intro hK (And.intro hX (And.intro hpo c3))))
    clear hsp2 hK hX hpo c3 hb hu hsp hx hq
    gi_wp2
    obtain ⟨hsp2, hK, hX, hpo, c3⟩ := HS.out
    refine ⟨by simp, .inl ⟨_, _, rfl, run_takeDeferred hK, ?_⟩⟩
    refine ⟨.bool true, by simp [results, Tryz.results244, go_sem, c3], by rw [hsp2], ?_⟩
    exact below_upd (Below.refl _ _) (hX.trans (hpo.mono (fun j _ e => by omega))) (Nat.le_refl _) (fun k h => h)
end Go.Proofs.YtnadilfobmgebaaGreatDoor
namespace Go.Proofs.YtnadilfobmgebaaGreatDoor
open Go Go.RowKit
def CaS.ev (n : CaN) (a : CaS) : CaS := { a with K := (EvG.evR (cleanB a.ps) n.sl a.K a.A a.H).2.2.1, A := (EvG.evR (cleanB a.ps) n.sl a.K a.A a.H).2.2.2.1, H := (EvG.evR (cleanB a.ps) n.sl a.K a.A a.H).2.2.2.2 }
def CaS.evK (n : CaN) (a : CaS) : Int := (EvG.evR (cleanB a.ps) n.sl a.K a.A a.H).1
def CaS.evC (n : CaN) (a : CaS) : Int := (EvG.evR (cleanB a.ps) n.sl a.K a.A a.H).2.1
theorem evGo_some {fm : Int → Bool} {K : List Int} (hK : K ≠ []) : ∀ (g h : Nat) (A A' : Int → Bool) (p : Nat), EvG.evGo fm K g h A = some (p, A') → p < K.length ∧ fm (K.getD p 0) = true ∧ A' (K.getD p 0) = false ∧ ∀ x, A' x = true → A x = true := by
  have hl : 0 < K.length := List.length_pos_iff.2 hK
  intro g
  induction g with
  | zero => intro h A A' p e; cases e
  | succ g ih =>
    intro h A A' p e
    simp only [EvG.evGo] at e
    split at e
    · exact ih _ _ _ _ e
    · next hf =>
      split at e
      · next ha =>
        obtain ⟨h1, h2, h3, h4⟩ := ih _ _ _ _ e
        refine ⟨h1, h2, h3, fun x hx => ?_⟩
        have := h4 x hx
        unfold updB at this
        split at this
        · cases this
        · exact this
      · next ha =>
        simp only [Option.some.injEq, Prod.mk.injEq] at e
        obtain ⟨rfl, rfl⟩ := e
        exact ⟨Nat.mod_lt _ hl, by simpa using hf, by simpa using ha, fun _ h => h⟩
theorem evR_cases (fm : Int → Bool) (few : Nat) (K : List Int) (A : Int → Bool) (G : List Int) :
    ((EvG.evR fm few K A G).2.1 = 14 ∧ EvG.evR fm few K A G = (0, 14, K, A, G)) ∨
      ((EvG.evR fm few K A G).2.1 = 0 ∧ ∃ i A', ∃ h : i < K.length, EvG.evR fm few K A G = (K[i], 0, EvG.restK K i, A', EvG.trimG few (G ++ [K[i]])) ∧ fm K[i] = true ∧ A' K[i] = false) := by
  unfold EvG.evR
  cases hg : EvG.evGo fm K (2 * K.length) 0 A with
  | none => exact .inl ⟨rfl, rfl⟩
  | some q =>
    obtain ⟨p, A'⟩ := q
    by_cases hK : K = []
    · subst hK; cases hg
    · obtain ⟨h1, h2, h3, -⟩ := evGo_some hK _ _ _ _ _ hg
      have e : K.getD p 0 = K[p] := by simp [h1]
      rw [e] at h2 h3
      refine .inr ⟨rfl, p, A', h1, ?_, h2, h3⟩
      simp only [e]
theorem clean_get {ps : List (Int × Bool)} {k : Int} (h : cleanB ps k = true) : getC ps k = 0 := by
  unfold cleanB at h
  simp only [Bool.and_eq_true, beq_iff_eq] at h
  exact h.1
def CaS.evicts (n : CaN) : Nat → Nat → CaS → CaS × Nat × Int
  | 0, g, a => (a, g, 0)
  | m + 1, g, a =>
    if a.spareB = false then (a, g, 0)
    else if (a.roomed n).2 ≠ 0 then ((a.roomed n).1, g, (a.roomed n).2)
    else if (a.roomed n).1.evC n ≠ 0 then ((a.roomed n).1.ev n, g, 0)
    else if turnCode (a.roomed n).1.st (getV (a.roomed n).1.ps ((a.roomed n).1.evK n)).1 3 ≠ 0 then (((a.roomed n).1.ev n).left n ((a.roomed n).1.evK n), g, turnCode (a.roomed n).1.st (getV (a.roomed n).1.ps ((a.roomed n).1.evK n)).1 3)
    else CaS.evicts n m (g + 1) (((a.roomed n).1.ev n).left n ((a.roomed n).1.evK n))
theorem CaS.Fit.ev {n : CaN} {a : CaS} {N : Nat} (h : a.Fit N) : (a.ev n).Fit N := { h with }
theorem CaS.Fit.left {n : CaN} {a : CaS} {N : Nat} (h : a.Fit N) (h1 : 1 ≤ a.next) (k : Int) : (a.left n k).Fit (N + 1) :=
  { h.mono (Nat.le_succ N) with
    nx := by have := h.nx; show a.next + 1 ≤ N + 1; omega
    w1 := fun q hq => by
      rcases List.mem_append.1 hq with hq | hq
      · exact h.w1 q hq
      · simp at hq; subst hq; exact h1
    sm := fun x v hv => by
      simp only [upd1] at hv
      split at hv
      · cases hv
      · exact h.sm x v hv }
theorem CaS.ckpt_next (n : CaN) (a : CaS) : (a.ckpt n).1.next = a.next ∧ (a.ckpt n).1.ps = a.ps := by
  unfold CaS.ckpt
  repeat' split
  all_goals exact ⟨rfl, rfl⟩
theorem CaS.ckpt_room {n : CaN} {a : CaS} (h : (a.ckpt n).2 = 0) (h1 : 1 ≤ a.next) (hj : 4 ≤ n.jo) : (a.ckpt n).1.next + 1 ≤ (a.ckpt n).1.cov + n.jo := by
  unfold CaS.ckpt at *
  split at h
  · next hc => exact absurd h hc
  split at h
  · next hc => exact absurd h hc
  split at h
  · next hc => exact absurd h hc
  · next h2 h3 h4 =>
    rw [if_neg h2, if_neg h3, if_neg h4]
    show a.next + 1 ≤ (a.next - 1) + n.jo
    omega
theorem CaS.roomed_next (n : CaN) (a : CaS) : (a.roomed n).1.next = a.next ∧ (a.roomed n).1.ps = a.ps := by
  unfold CaS.roomed
  split
  · exact ⟨rfl, rfl⟩
  · exact a.ckpt_next n
theorem CaS.roomed_room {n : CaN} {a : CaS} (h : (a.roomed n).2 = 0) (h1 : 1 ≤ a.next) (hj : 4 ≤ n.jo) : (a.roomed n).1.next + 1 ≤ (a.roomed n).1.cov + n.jo := by
  unfold CaS.roomed at *
  split at h
  · next hc => rw [if_pos hc]; exact hc
  · next hc => rw [if_neg hc]; exact CaS.ckpt_room h h1 hj
section
variable {own : Nat → Nat} {w w' : World} {c : Nat} {n : CaN} {p : CaP} {a : CaS} {N : Nat}
theorem CaAt.nx1 (h : CaAt own w c n p a) : 1 ≤ a.next := by have := h.jr.good.wl; omega
theorem ca_kev (h : CaAt own w c n p a) : Calls Tryz.prog 245 #[ptr p.ck, EvG.mayV (ptr c)] w (CaOut own w c n p (a.ev n) (.tuple #[.int .i64 (a.evK n), .int .i64 (a.evC n)])) :=
  (ca_kevict h).mono fun e w' ⟨key, code, K', A', H', he, ho, own', h', hd⟩ => by
    have e2 := ho.2
    refine ⟨?_, own', ?_, hd⟩
    · rw [he, CaS.evK, CaS.evC, e2]
    · rw [CaS.ev, e2]; exact h'
set_option maxRecDepth 100000 in
set_option maxHeartbeats 1000000 in
theorem ca_evict (h : CaAt own w c n p a) (hf : a.Fit N) (m : Nat) (hm : m ≤ 1000) (hN : N + m * (n.pa + 1) ≤ 50000) :
    Calls Tryz.prog 231 #[ptr c, .int .i64 (m : Int)] w (CaOut own w c n p (CaS.evicts n m 0 a).1 (.tuple #[.int .i64 ((CaS.evicts n m 0 a).2.1 : Int), .int .i64 (CaS.evicts n m 0 a).2.2])) := by
  obtain ⟨R, hR⟩ : ∃ R, R = CaS.evicts n m 0 a := ⟨_, rfl⟩
  rw [← hR]
  have H := Lib.hid (And.intro h (And.intro hf (And.intro hN hR)))
  have hmf : ∀ (fn : Fn) (first cap : Array Value) (w : World), (Instr.makeFunc fn first cap).run Tryz.prog w = .ok (.func fn first cap) w := fun _ _ _ _ => rfl
  clear h hf hN hR
  go_enter Tryz.func231, Tryz.ntmps231
  go_wp2
  refine wp_scope_straight ?_
  go_wp2
  refine wp_label ?_
  go_wp2
  go_loopg [6] m (fun g i wr => ∃ k : Nat, k + g = m ∧ i = .int .i64 k ∧ ∃ own' a', CaAt own' wr c n p a' ∧ Did own own' w wr ∧ a'.Fit (N + k * (n.pa + 1)) ∧ CaS.evicts n g k a' = R)
  case atStart => exact ⟨0, by omega, rfl, own, a, H.out.1, Did.refl H.out.1.far, by simpa using H.out.2.1, H.out.2.2.2.symm⟩
  case round =>
    obtain ⟨k, hk, rfl, own1, a1, h1, d1, f1, e1⟩ := hrel
    have hmul : k < m → (k + 1) * (n.pa + 1) ≤ m * (n.pa + 1) := fun h => Nat.mul_le_mul_right _ h
    rw [Nat.succ_mul] at hmul
    have H1 := Lib.hid (And.intro h1 (And.intro d1 (And.intro f1 e1)))
    have HS := Lib.hid (ca_spare h1)
    have hmul := Lib.hid hmul
    clear h1 d1 f1 e1
    by_cases hlt : k < m
    · have hN1 : Hid (N + (k + 1) * (n.pa + 1) ≤ 50000) := by
        show _ ≤ _
        have h1 := hmul.out hlt
        have h2 := H.out.2.2.1
        rw [Nat.succ_mul]; omega
      have hs1 : (k + 1) * (n.pa + 1) = k * (n.pa + 1) + (n.pa + 1) := Nat.succ_mul _ _
      replace hs1 := Lib.hid hs1
      have e1' : CaS.evicts n (gk - 1 + 1) k a1 = R := by rw [show gk - 1 + 1 = gk by omega]; exact H1.out.2.2.2
      rw [CaS.evicts] at e1'
      replace e1' := Lib.hid e1'
      go_wp2_with fail
      refine HS.out.mono ?_
      rintro e w2 ⟨rfl, hb2⟩
      have hu2 : Upd (fun _ => False) wr w2 := Upd.of_below hb2
      have h2 := H1.out.1.new hu2
      have d2 := H1.out.2.1.trans (H1.out.1.didNew hu2)
      have f2 := H1.out.2.2.1
      have hsz : Hid (w.heap.size ≤ w2.heap.size) := d2.upd.size
      clear hu2 hb2 H1 HS
      cases hsp : a1.spareB with
      | false =>
        have e2 := e1'.out
        rw [if_pos hsp] at e2
        have H2 := Lib.hid (And.intro h2 (And.intro d2 e2))
        clear h2 d2 f2 hsp e2
        go_wp2
        rw [Exit.noGoto_ret]
        go_ret2
        rw [← H2.out.2.2]
        exact ⟨rfl, own1, H2.out.1, H2.out.2.1⟩
      | true =>
        have e2 := e1'.out
        rw [if_neg (by rw [hsp]; decide)] at e2
        clear e1' hsp
        have HR := Lib.hid (CaOut.from d2 (ca_room h2 f2 (by have := hN1.out; have := hs1.out; omega)))
        have hnx := h2.nx1
        have hjo := h2.ok.j1
        have f3 := f2.roomed (n := n)
        have hrm := fun h => CaS.roomed_room (a := a1) (n := n) h hnx hjo
        have hnn := (a1.roomed_next n).1
        generalize a1.roomed n = r at *
        obtain ⟨b, cd⟩ := r
        simp only at HR e2 f3 hrm hnn
        have H2 := Lib.hid (And.intro e2 (And.intro f3 (And.intro hrm hnn)))
        clear h2 d2 f2 e2 f3 hrm hnn hnx
        go_wp2_with fail
        refine HR.out.mono ?_
        rintro e w3 ⟨rfl, own3, h3, d3⟩
        clear HR
        by_cases hc : cd = 0
        rotate_left
        · have q0 : (cd == 0) = false := by simpa using hc
          have e2 := H2.out.1
          rw [if_pos hc] at e2
          have H3 := Lib.hid (And.intro h3 (And.intro d3 e2))
          clear h3 d3 e2
          go_wp2
          rw [Exit.noGoto_ret]
          go_ret2
          rw [← H3.out.2.2]
          exact ⟨rfl, own3, H3.out.1, H3.out.2.1⟩
        subst hc
        have e3 := H2.out.1
        rw [if_neg (by simp)] at e3
        obtain ⟨-, -, -, -, -, -, -, c21, -⟩ := h3.cells
        have HK := Lib.hid (CaOut.from d3 (ca_kev h3))
        have H3 := Lib.hid (And.intro e3 (And.intro h3.nx1 (And.intro (evR_cases (cleanB b.ps) n.sl b.K b.A b.H) h3.ok)))
        clear h3 d3 e3
        go_wp2_with fail
        refine HK.out.mono ?_
        rintro e w4 ⟨rfl, own4, h4, d4⟩
        obtain ⟨key, hkey⟩ : ∃ key, key = b.evK n := ⟨_, rfl⟩
        obtain ⟨code, hcode⟩ : ∃ code, code = b.evC n := ⟨_, rfl⟩
        rw [← hkey, ← hcode]
        have H4 := Lib.hid (And.intro h4 (And.intro d4 (And.intro hkey hcode)))
        clear h4 d4 hkey hcode HK c21
        by_cases hc : code = 0
        rotate_left
        · have q0 : (code == 0) = false := by simpa using hc
          have e4 := H3.out.1
          rw [← H4.out.2.2.2, if_pos hc] at e4
          replace e4 := Lib.hid e4
          go_wp2
          rw [Exit.noGoto_ret]
          go_ret2
          rw [← e4.out]
          exact ⟨rfl, own4, H4.out.1, H4.out.2.1⟩
        subst hc
        obtain ⟨h4, d4, hkey, hcode⟩ := H4.out
        obtain ⟨e3, hnx, hcs, hok⟩ := H3.out
        rw [← hcode, if_neg (by simp), ← hkey] at e3
        have hg : getC (b.ev n).ps key = 0 := by
          rcases hcs with ⟨hcs, -⟩ | ⟨-, i, A', hi, hev, hfm, -⟩
          · have : b.evC n = 14 := hcs
            rw [← hcode] at this; cases this
          · have : key = b.K[i] := by rw [hkey, CaS.evK, hev]
            rw [this]
            exact clean_get hfm
        have hkr : 0 ≤ key ∧ key < 4096 := by
          have h1 := h4.pl
          have h2 := h4.ok.b2
          unfold getC at hg
          split at hg
          · cases hg
          · omega
        have hrm := H2.out.2.2.1 (by simp)
        have f3 := H2.out.2.1
        have hnb : (b.ev n).next = b.next := rfl
        have hnx2 : b.next ≤ 50000 := Nat.le_trans f3.nx (by have := hN1.out; have := hs1.out; omega)
        have HL := Lib.hid (CaOut.from d4 (ca_leave h4 key hg (by show b.next ≤ b.cov + n.jo; omega) (by rw [hnb]; omega) (by rw [hnb]; exact mayR_drop hnx (by omega) (by have := hok.j1; omega) hkr)))
        have f5 : ((b.ev n).left n key).Fit (N + k * (n.pa + 1) + n.pa + 1) := f3.ev.left hnx key
        have hgk := hk
        generalize hlc : turnCode (b.ev n).st (getV (b.ev n).ps key).1 3 = lc at *
        replace hlc : turnCode b.st (getV b.ps key).1 3 = lc := hlc
        rw [hlc] at e3
        have H5 := Lib.hid (And.intro e3 f5)
        clear h4 d4 hkey hcode e3 hnx hcs hok hg hkr hrm f3 hnb hnx2 f5 hlc H4 H3 H2
        go_wp2_with fail
        refine HL.out.mono ?_
        rintro e w5 ⟨rfl, own5, h5, d5⟩
        have H6 := Lib.hid (And.intro h5 d5)
        clear h5 d5 HL
        by_cases hc : lc = 0
        rotate_left
        · have q0 : (lc == 0) = false := by simpa using hc
          have e4 := H5.out.1
          rw [if_pos hc] at e4
          replace e4 := Lib.hid e4
          go_wp2
          rw [Exit.noGoto_ret]
          go_ret2
          rw [← e4.out]
          exact ⟨rfl, own5, H6.out.1, H6.out.2⟩
        subst hc
        have e4 := H5.out.1
        rw [if_neg (by simp)] at e4
        replace e4 := Lib.hid e4
        go_wp2
        go_roundg (gk - 1)
        case measure => omega
        case rel =>
          refine ⟨k + 1, by omega, by go_num, own5, _, H6.out.1, H6.out.2, ?_, e4.out⟩
          rw [hs1.out, ← Nat.add_assoc, ← Nat.add_assoc]; exact H5.out.2
    · have e1 := H1.out.2.2.2
      have hk0 : gk = 0 := by omega
      rw [hk0] at e1
      have e2 : (a1, k, (0 : Int)) = R := e1
      have H2 := Lib.hid (And.intro H1.out.1 (And.intro H1.out.2.1 e2))
      clear e1 e2 H1 HS
      go_wp2
      rw [Exit.noGoto_ret]
      go_ret2
      rw [← H2.out.2.2]
      exact ⟨rfl, own1, H2.out.1, H2.out.2.1⟩
end
def CaS.takeR (n : CaN) (b : CaS) (s : Int) : CaS × Int × Bool × Int :=
  if (b.roomed n).2 = 0 then ((b.roomed n).1, s, true, 0) else ({ (b.roomed n).1 with st := turnList (b.roomed n).1.st s 3 }, 0, false, (b.roomed n).2)
def CaS.al (b : CaS) : CaS := { b with st := allocList b.st }
def CaS.take3 (n : CaN) (b : CaS) : CaS × Int × Bool × Int :=
  if (b.committed n).2 ≠ 0 then ((b.committed n).1, 0, false, (b.committed n).2)
  else if allocCode (b.committed n).1.st ≠ 0 then ((b.committed n).1.al, 0, false, 0) else (b.committed n).1.al.takeR n (allocVal (b.committed n).1.st)
def CaS.take2 (n : CaN) (b : CaS) : CaS × Int × Bool × Int := if (pos b.st 3).length = 0 then (b, 0, false, 0) else b.take3 n
def CaS.take1 (n : CaN) (b : CaS) : CaS × Int × Bool × Int :=
  if (pos b.st 3).length = 0 then (if (CaS.evicts n 1 0 b).2.2 ≠ 0 then ((CaS.evicts n 1 0 b).1, 0, false, (CaS.evicts n 1 0 b).2.2) else (CaS.evicts n 1 0 b).1.take2 n) else b.take2 n
def CaS.takes (n : CaN) (a : CaS) : CaS × Int × Bool × Int := if allocCode a.st = 0 then a.al.takeR n (allocVal a.st) else a.al.take1 n
theorem comR_O (base k : Nat) (F : List Bk) (O : List (Nat × Bk)) (P : List Int) (W : List (Nat × Bk)) : (comR base k F O P W).1.O.length ≤ O.length + W.length ∧ ((comR base k F O P W).2 = W ∨ (comR base k F O P W).2 = []) := by
  have h1 := flushR_O F O P
  have h2 := comW_O base k (flushR F O P).F W (flushR F O P).O (flushR F O P).P
  have h3 := flushR_O (comW base k (flushR F O P).F W (flushR F O P).O (flushR F O P).P).F (comW base k (flushR F O P).F W (flushR F O P).O (flushR F O P).P).O (comW base k (flushR F O P).F W (flushR F O P).O (flushR F O P).P).P
  unfold comR
  split
  · exact ⟨Nat.le_trans h1 (Nat.le_add_right _ _), .inl rfl⟩
  split
  · exact ⟨by dsimp only; omega, .inl rfl⟩
  split
  · exact ⟨by dsimp only; omega, .inl rfl⟩
  · exact ⟨by dsimp only; omega, .inr rfl⟩
theorem CaS.Fit.cm {n : CaN} {a : CaS} {N : Nat} (h : a.Fit N) (hW : a.W.length ≤ n.jo) : (a.cm n).Fit (N + n.jo) := by
  obtain ⟨h1, h2⟩ := comR_O (1 + 2 * n.pa) n.jo a.dF a.dO a.dP a.W
  exact { h.mono (Nat.le_add_right N n.jo) with
    dO := by have := h.dO; show (comR (1 + 2 * n.pa) n.jo a.dF a.dO a.dP a.W).1.O.length ≤ _; omega
    w1 := fun q hq => by
      replace hq : q ∈ (comR (1 + 2 * n.pa) n.jo a.dF a.dO a.dP a.W).2 := hq
      rcases h2 with e | e
      · rw [e] at hq; exact h.w1 q hq
      · rw [e] at hq; cases hq }
theorem CaS.Fit.committed {n : CaN} {a : CaS} {N : Nat} (h : a.Fit N) (hW : a.W.length ≤ n.jo) : (a.committed n).1.Fit (N + n.jo) := by
  have h1 := h.fb
  have h2 := h1.cm (n := n) hW
  unfold CaS.committed
  split
  · exact h1.mono (Nat.le_add_right _ _)
  split
  · exact h2
  · exact { h2 with }
theorem CaS.Fit.al {a : CaS} {N : Nat} (h : a.Fit N) : a.al.Fit N := { h with }
theorem CaS.Fit.turned {a : CaS} {N : Nat} (h : a.Fit N) (l : List Int) : ({ a with st := l } : CaS).Fit N := { h with }
theorem CaS.Fit.takeR {n : CaN} {a : CaS} {N : Nat} (h : a.Fit N) (s : Int) : (a.takeR n s).1.Fit (N + n.pa) := by
  unfold CaS.takeR
  split
  · exact h.roomed
  · exact h.roomed.turned _
section
variable {own : Nat → Nat} {w w' : World} {c : Nat} {n : CaN} {p : CaP} {a : CaS} {N : Nat}
theorem CaAt.wl (h : CaAt own w c n p a) : a.W.length ≤ n.jo := by have h1 := h.jr.good.wl; have h2 := h.jr.good.room; omega
theorem ca_al (h : CaAt own w c n p a) : Calls Tryz.prog 230 #[ptr p.ss] w (CaOut own w c n p a.al (.tuple #[.int .i64 (allocVal a.st), .int .i64 (allocCode a.st)])) := ca_alloc h
theorem CaS.Fit.evicts {n : CaN} : ∀ (m g : Nat) {a : CaS} {N : Nat}, a.Fit N → 1 ≤ a.next → (CaS.evicts n m g a).1.Fit (N + m * (n.pa + 1))
  | 0, g, a, N, h, _ => by simpa [CaS.evicts] using h
  | m + 1, g, a, N, h, h1 => by
    have hr := h.roomed (n := n)
    have hn := (a.roomed_next n).1
    have hs : (m + 1) * (n.pa + 1) = m * (n.pa + 1) + (n.pa + 1) := Nat.succ_mul _ _
    have hl : (((a.roomed n).1.ev n).left n ((a.roomed n).1.evK n)).Fit (N + n.pa + 1) := hr.ev.left (by show 1 ≤ (a.roomed n).1.next; omega) _
    simp only [CaS.evicts]
    split
    · exact h.mono (Nat.le_add_right _ _)
    split
    · exact hr.mono (by omega)
    split
    · exact hr.ev.mono (by omega)
    split
    · exact hl.mono (by omega)
    · have := CaS.Fit.evicts (n := n) m (g + 1) hl (by show 1 ≤ (a.roomed n).1.next + 1; omega)
      exact this.mono (by omega)
theorem CaS.committed_next (n : CaN) (a : CaS) : (a.committed n).1.next = a.next ∧ (a.committed n).1.ps = a.ps := by
  unfold CaS.committed
  repeat' split
  all_goals exact ⟨rfl, rfl⟩
set_option maxRecDepth 100000 in
set_option maxHeartbeats 1000000 in
theorem ca_take (h : CaAt own w c n p a) (hf : a.Fit N) (hN : N + 2 * n.pa + n.jo + 1 ≤ 50000) :
    Calls Tryz.prog 210 #[ptr c] w (CaOut own w c n p (a.takes n).1 (.tuple #[.int .i64 (a.takes n).2.1, .bool (a.takes n).2.2.1, .int .i64 (a.takes n).2.2.2])) := by
  obtain ⟨R, hR⟩ : ∃ R, R = a.takes n := ⟨_, rfl⟩
  rw [← hR]
  unfold CaS.takes at hR
  have HA := Lib.hid (ca_al h)
  obtain ⟨-, -, -, -, -, cS, -, -, -⟩ := h.cells
  have H := Lib.hid (And.intro hf (And.intro hR h.nx1))
  clear h hf hR
  go_enter Tryz.func210, Tryz.ntmps210
  go_wp2_with fail
  refine HA.out.mono ?_
  rintro e w1 ⟨rfl, own1, h1, d1⟩
  have hR := H.out.2.1
  have hf := H.out.1.al
  have hnx : 1 ≤ a.al.next := H.out.2.2
  generalize allocVal a.st = av at *
  generalize allocCode a.st = ac at *
  generalize a.al = b at *
  clear HA cS H
  by_cases hc : ac = 0
  · subst hc
    rw [if_pos rfl] at hR
    unfold CaS.takeR at hR
    have HC := Lib.hid (CaOut.from d1 (ca_room h1 hf (by omega)))
    generalize hrr : CaS.roomed n b = r at *
    obtain ⟨bR, cdR⟩ := r
    simp only at hR HC
    have HX := Lib.hid hR
    clear h1 d1 hR hf hrr
    go_wp2_with fail
    refine HC.out.mono ?_
    rintro e w21 ⟨rfl, own21, h21, d21⟩
    have hR := HX.out
    clear HC
    by_cases hc : cdR = 0
    · subst hc
      rw [if_pos rfl] at hR
      have HY := Lib.hid (And.intro h21 (And.intro d21 hR))
      clear h21 d21 hR
      go_wp2
      go_ret3
      rw [HY.out.2.2]
      exact ⟨rfl, own21, HY.out.1, HY.out.2.1⟩
    · have q9 : (cdR == 0) = false := by simpa using hc
      rw [if_neg hc] at hR
      have HT := Lib.hid (CaOut.from d21 (ca_turn h21 av 3))
      obtain ⟨-, -, -, -, -, cS, -, -, -⟩ := h21.cells
      have HY := Lib.hid hR
      clear h21 d21 hR hc
      go_wp2_with fail
      refine HT.out.mono ?_
      rintro e w22 ⟨rfl, own22, h22, d22⟩
      have HZ := Lib.hid (And.intro h22 d22)
      clear h22 d22 HT cS
      go_wp2
      go_ret3
      rw [HY.out]
      exact ⟨rfl, own22, HZ.out.1, HZ.out.2⟩
  · have q0 : (ac == 0) = false := by simpa using hc
    rw [if_neg hc] at hR
    unfold CaS.take1 at hR
    have HC := Lib.hid (CaOut.from d1 (ca_count h1 3))
    obtain ⟨-, -, -, -, -, cS, -, -, -⟩ := h1.cells
    have H := Lib.hid (And.intro hf (And.intro hR hnx))
    clear h1 d1 hf hR hc hnx
    go_wp2_with fail
    refine HC.out.mono ?_
    rintro e w2 ⟨rfl, own2, h2, d2⟩
    have hR := H.out.2.1
    clear HC cS
    obtain ⟨st, hst⟩ : ∃ st, st = (pos b.st 3).length := ⟨_, rfl⟩
    rw [← hst] at hR ⊢
    by_cases hc : st = 0
    · rw [if_pos hc] at hR
      have q1 : ((st : Int) == 0) = true := by simpa using hc
      have HE := Lib.hid (CaOut.from d2 (ca_evict h2 H.out.1 1 (by omega) (by omega)))
      have hfe := CaS.Fit.evicts (n := n) 1 0 H.out.1 H.out.2.2
      generalize CaS.evicts n 1 0 b = r at *
      obtain ⟨b2, g2, cd2⟩ := r
      simp only at hR hfe HE
      have HX := Lib.hid (And.intro hfe hR)
      clear h2 d2 hR hfe hst hc H
      go_wp2_with fail
      refine HE.out.mono ?_
      rintro e w3 ⟨rfl, own3, h3, d3⟩
      have hR := HX.out.2
      clear HE
      by_cases hc : cd2 = 0
      rotate_left
      · have q0 : (cd2 == 0) = false := by simpa using hc
        rw [if_pos hc] at hR
        have HY := Lib.hid (And.intro h3 (And.intro d3 hR))
        clear h3 d3 hR
        go_wp2
        go_ret3
        rw [HY.out.2.2]
        exact ⟨rfl, own3, HY.out.1, HY.out.2.1⟩
      subst hc
      rw [if_neg (by simp)] at hR
      have hf := HX.out.1
      unfold CaS.take2 at hR
      have HC := Lib.hid (CaOut.from d3 (ca_count h3 3))
      obtain ⟨-, -, -, -, -, cS, -, -, -⟩ := h3.cells
      have H := Lib.hid (And.intro hf hR)
      clear h3 d3 hf hR HX
      go_wp2_with fail
      refine HC.out.mono ?_
      rintro e w4 ⟨rfl, own4, h4, d4⟩
      have hR := H.out.2
      clear HC cS
      obtain ⟨st2, hst⟩ : ∃ st, st = (pos b2.st 3).length := ⟨_, rfl⟩
      rw [← hst] at hR ⊢
      by_cases hc : st2 = 0
      · rw [if_pos hc] at hR
        have q9 : ((st2 : Int) == 0) = true := by simpa using hc
        have HY := Lib.hid (And.intro h4 (And.intro d4 hR))
        clear h4 d4 hR hst hc
        go_wp2
        go_ret3
        rw [HY.out.2.2]
        exact ⟨rfl, own4, HY.out.1, HY.out.2.1⟩
      rw [if_neg hc] at hR
      have q9 : ((st2 : Int) == 0) = false := by simpa using hc
      clear hst
      unfold CaS.take3 at hR
      have hwl := h4.wl
      have hf0 := H.out.1
      have HC := Lib.hid (CaOut.from d4 (ca_ccommit h4 hf0.w1 (by have := hf0.dO; omega)))
      have hf := hf0.committed (n := n) hwl
      generalize CaS.committed n b2 = r at *
      obtain ⟨b3, cd3⟩ := r
      simp only at hR HC hf
      have HX := Lib.hid (And.intro hf hR)
      clear h4 d4 hR hf hf0 hwl H
      go_wp2_with fail
      refine HC.out.mono ?_
      rintro e w5 ⟨rfl, own5, h5, d5⟩
      have hR := HX.out.2
      clear HC
      by_cases hc : cd3 = 0
      rotate_left
      · have q9 : (cd3 == 0) = false := by simpa using hc
        rw [if_pos hc] at hR
        have HY := Lib.hid (And.intro h5 (And.intro d5 hR))
        clear h5 d5 hR
        go_wp2
        go_ret3
        rw [HY.out.2.2]
        exact ⟨rfl, own5, HY.out.1, HY.out.2.1⟩
      subst hc
      rw [if_neg (by simp)] at hR
      have HA := Lib.hid (CaOut.from d5 (ca_al h5))
      obtain ⟨-, -, -, -, -, cS, -, -, -⟩ := h5.cells
      have HY := Lib.hid hR
      clear h5 d5 hR
      go_wp2_with fail
      refine HA.out.mono ?_
      rintro e w6 ⟨rfl, own6, h6, d6⟩
      have hR := HY.out
      have hf := HX.out.1.al
      generalize allocVal b3.st = av2 at *
      generalize allocCode b3.st = ac2 at *
      generalize b3.al = b4 at *
      clear HA cS HX HY
      by_cases hc : ac2 = 0
      rotate_left
      · have q9 : (ac2 == 0) = false := by simpa using hc
        rw [if_pos hc] at hR
        have HY := Lib.hid (And.intro h6 (And.intro d6 hR))
        clear h6 d6 hR
        go_wp2
        go_ret3
        rw [HY.out.2.2]
        exact ⟨rfl, own6, HY.out.1, HY.out.2.1⟩
      subst hc
      rw [if_neg (by simp)] at hR
      unfold CaS.takeR at hR
      have HC := Lib.hid (CaOut.from d6 (ca_room h6 hf (by omega)))
      generalize hrr : CaS.roomed n b4 = r at *
      obtain ⟨bR, cdR⟩ := r
      simp only at hR HC
      have HX := Lib.hid hR
      clear h6 d6 hR hf hrr
      go_wp2_with fail
      refine HC.out.mono ?_
      rintro e w26 ⟨rfl, own26, h26, d26⟩
      have hR := HX.out
      clear HC
      by_cases hc : cdR = 0
      · subst hc
        rw [if_pos rfl] at hR
        have HY := Lib.hid (And.intro h26 (And.intro d26 hR))
        clear h26 d26 hR
        go_wp2
        go_ret3
        rw [HY.out.2.2]
        exact ⟨rfl, own26, HY.out.1, HY.out.2.1⟩
      · have q9 : (cdR == 0) = false := by simpa using hc
        rw [if_neg hc] at hR
        have HT := Lib.hid (CaOut.from d26 (ca_turn h26 av2 3))
        obtain ⟨-, -, -, -, -, cS, -, -, -⟩ := h26.cells
        have HY := Lib.hid hR
        clear h26 d26 hR hc
        go_wp2_with fail
        refine HT.out.mono ?_
        rintro e w27 ⟨rfl, own27, h27, d27⟩
        have HZ := Lib.hid (And.intro h27 d27)
        clear h27 d27 HT cS
        go_wp2
        go_ret3
        rw [HY.out]
        exact ⟨rfl, own27, HZ.out.1, HZ.out.2⟩
    · rw [if_neg hc] at hR
      have q1 : ((st : Int) == 0) = false := by simpa using hc
      unfold CaS.take2 at hR
      have HC := Lib.hid (CaOut.from d2 (ca_count h2 3))
      obtain ⟨-, -, -, -, -, cS, -, -, -⟩ := h2.cells
      rw [← hst] at hR HC
      have H := Lib.hid (And.intro H.out.1 hR)
      clear h2 d2 hR hst
      have hcc := Lib.hid hc
      clear hc
      go_wp2_with fail
      refine HC.out.mono ?_
      rintro e w4 ⟨rfl, own4, h4, d4⟩
      have hR := H.out.2
      have hc := hcc.out
      clear HC cS
      obtain ⟨b2, hb2⟩ : ∃ b2, b2 = b := ⟨_, rfl⟩
      rw [if_neg hc] at hR
      subst hb2
      unfold CaS.take3 at hR
      have hwl := h4.wl
      have hf0 := H.out.1
      have HC := Lib.hid (CaOut.from d4 (ca_ccommit h4 hf0.w1 (by have := hf0.dO; omega)))
      have hf := hf0.committed (n := n) hwl
      generalize CaS.committed n b2 = r at *
      obtain ⟨b3, cd3⟩ := r
      simp only at hR HC hf
      have HX := Lib.hid (And.intro hf hR)
      clear h4 d4 hR hf hf0 hwl H
      go_wp2_with fail
      refine HC.out.mono ?_
      rintro e w5 ⟨rfl, own5, h5, d5⟩
      have hR := HX.out.2
      clear HC
      by_cases hc : cd3 = 0
      rotate_left
      · have q9 : (cd3 == 0) = false := by simpa using hc
        rw [if_pos hc] at hR
        have HY := Lib.hid (And.intro h5 (And.intro d5 hR))
        clear h5 d5 hR
        go_wp2
        go_ret3
        rw [HY.out.2.2]
        exact ⟨rfl, own5, HY.out.1, HY.out.2.1⟩
      subst hc
      rw [if_neg (by simp)] at hR
      have HA := Lib.hid (CaOut.from d5 (ca_al h5))
      obtain ⟨-, -, -, -, -, cS, -, -, -⟩ := h5.cells
      have HY := Lib.hid hR
      clear h5 d5 hR
      go_wp2_with fail
      refine HA.out.mono ?_
      rintro e w6 ⟨rfl, own6, h6, d6⟩
      have hR := HY.out
      have hf := HX.out.1.al
      generalize allocVal b3.st = av2 at *
      generalize allocCode b3.st = ac2 at *
      generalize b3.al = b4 at *
      clear HA cS HX HY
      by_cases hc : ac2 = 0
      rotate_left
      · have q9 : (ac2 == 0) = false := by simpa using hc
        rw [if_pos hc] at hR
        have HY := Lib.hid (And.intro h6 (And.intro d6 hR))
        clear h6 d6 hR
        go_wp2
        go_ret3
        rw [HY.out.2.2]
        exact ⟨rfl, own6, HY.out.1, HY.out.2.1⟩
      subst hc
      rw [if_neg (by simp)] at hR
      unfold CaS.takeR at hR
      have HC := Lib.hid (CaOut.from d6 (ca_room h6 hf (by omega)))
      generalize hrr : CaS.roomed n b4 = r at *
      obtain ⟨bR, cdR⟩ := r
      simp only at hR HC
      have HX := Lib.hid hR
      clear h6 d6 hR hf hrr
      go_wp2_with fail
      refine HC.out.mono ?_
      rintro e w26 ⟨rfl, own26, h26, d26⟩
      have hR := HX.out
      clear HC
      by_cases hc : cdR = 0
      · subst hc
        rw [if_pos rfl] at hR
        have HY := Lib.hid (And.intro h26 (And.intro d26 hR))
        clear h26 d26 hR
        go_wp2
        go_ret3
        rw [HY.out.2.2]
        exact ⟨rfl, own26, HY.out.1, HY.out.2.1⟩
      · have q9 : (cdR == 0) = false := by simpa using hc
        rw [if_neg hc] at hR
        have HT := Lib.hid (CaOut.from d26 (ca_turn h26 av2 3))
        obtain ⟨-, -, -, -, -, cS, -, -, -⟩ := h26.cells
        have HY := Lib.hid hR
        clear h26 d26 hR hc
        go_wp2_with fail
        refine HT.out.mono ?_
        rintro e w27 ⟨rfl, own27, h27, d27⟩
        have HZ := Lib.hid (And.intro h27 d27)
        clear h27 d27 HT cS
        go_wp2
        go_ret3
        rw [HY.out]
        exact ⟨rfl, own27, HZ.out.1, HZ.out.2⟩
end
end Go.Proofs.YtnadilfobmgebaaGreatDoor
