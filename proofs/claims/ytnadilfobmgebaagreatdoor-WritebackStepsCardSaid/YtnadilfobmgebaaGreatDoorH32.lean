/- Writeback: the blocks of a step are written, and cleaned. Writeback: Step. Writeback: Check, Tick. -/
import Derived.Test.YtnadilfobmgebaaGreatDoorH31
namespace Go.Proofs.YtnadilfobmgebaaGreatDoor
open Go Go.RowKit
theorem take_next {l : List Nat} {i : Nat} (h : i < l.length) : l.take (i + 1) = l.take i ++ [l[i]] := List.take_succ_eq_append_getElem h
section
variable {own : Nat → Nat} {X : World} {c : Nat} {n : CaN} {p : CaP} {a : CaS} {N : Nat}
theorem Did.still {own' : Nat → Nat} {W : World} (d : Did own own' X W) {b : Nat} {o : Obj} (hb : X.heap[b]? = some o) (h0 : own b = 0) : W.heap[b]? = some o ∧ own' b = 0 :=
  ⟨(d.upd.block b (lt_of_block hb) (fun hs => hs.1 h0)).trans hb, (d.old b (lt_of_block hb)).trans h0⟩
theorem Did.slice {own' : Nat → Nat} {W : World} (d : Did own own' X W) {v : Value} {m : Nat} {xs : List Value} (hs : Sl X 3 1 v m xs) (hV : ∀ g, v.ownBlock = some g → own g = 0) : Sl W 3 1 v m xs :=
  hs.keep d.upd (fun g hg e => e.1 (hV g hg))
structure ListAt (own : Nat → Nat) (X : World) (lb : Nat) (v : Value) (L : List Nat) : Prop where
  box : X.heap[lb]? = some (.cells #[v] 100 (0, 0))
  bo : own lb = 0
  sl : Sl X 3 1 v L.length (ints (L.map Int.ofNat))
  vo : ∀ g, v.ownBlock = some g → own g = 0
theorem ListAt.did {own' : Nat → Nat} {W : World} {lb : Nat} {v : Value} {L : List Nat} (h : ListAt own X lb v L) (d : Did own own' X W) : ListAt own' W lb v L where
  box := (d.still h.box h.bo).1
  bo := (d.still h.box h.bo).2
  sl := d.slice h.sl h.vo
  vo := fun g hg => by
    have h0 := h.vo g hg
    obtain ⟨cs, t, z, hc⟩ := h.sl.cellsAt hg
    exact (d.still hc h0).2
theorem wb_backs (hX : CaAt own X c n p a) (hf : a.Fit N) {L : List Nat} (hN : N + L.length ≤ 50000) (hL : ∀ k ∈ L, k < n.bl) (hlen : L.length ≤ 4096) {A gb lb : Nat} {v : Value} (gA : X.heap[A]? = some (.cells #[ptr c] 95 (0, 0))) (oA : own A = 0)
    (gG : X.heap[gb]? = some (.cells #[ptr p.back] 29 (0, 0))) (oG : own gb = 0) (hl : ListAt own X lb v L) :
    Calls Tryz.prog 90 #[.func (.func 91) #[] #[ptr A, ptr gb], ptr lb] X fun e W => ∃ own', CaAt own' W c n p (CaS.backs n L a).1 ∧ Did own own' X W ∧
      (((CaS.backs n L a).2 = 0 ∧ e = .returned (.tuple #[.int .i64 (L.length : Int), .int .i64 0])) ∨ ((CaS.backs n L a).2 ≠ 0 ∧ ∃ i : Nat, e = .returned (.tuple #[.int .i64 (i : Int), .int .i64 (CaS.backs n L a).2]))) := by
  refine (wb_eachA (St := fun i W => (CaS.backs n (L.take i) a).2 = 0 ∧ ∃ own', CaAt own' W c n p (CaS.backs n (L.take i) a).1 ∧ Did own own' X W)
    (Er := fun i cd W => cd = (CaS.backs n L a).2 ∧ (CaS.backs n L a).2 ≠ 0 ∧ ∃ own', CaAt own' W c n p (CaS.backs n L a).1 ∧ Did own own' X W)
    91 (ptr A) (ptr gb) L v lb X (enters_of Tryz.func91 (by kernel_rfl) rfl) hlen ?_ ?_ ⟨rfl, own, hX, Did.refl hX.far⟩).mono ?_
  · rintro i W hi ⟨-, own', -, d⟩
    have := hl.did d
    exact ⟨cell_of_block this.box 0, this.sl⟩
  · rintro i hi W ⟨hz, own', hW, d⟩
    obtain ⟨gA', oA'⟩ := d.still gA oA
    obtain ⟨gG', oG'⟩ := d.still gG oG
    have hfi := (CaS.backs_fit (n := n) (L.take i) hf).1
    rw [List.length_take] at hfi
    have hb := hfi.bO
    refine (wb_back1 hW A gb (cell_of_block gA' 0) (cell_of_block gG' 0) oG' L[i] (hL _ (List.getElem_mem hi)) (by omega)).mono ?_
    rintro e W2 ⟨rfl, own2, hW2, d2⟩
    have hsn := CaS.backs_snoc n L[i] (L.take i) a
    rw [← take_next hi, ite_ne hz] at hsn
    refine ⟨_, rfl, ?_⟩
    by_cases hc : ((CaS.backs n (L.take i) a).1.back1 n L[i]).2 = 0
    · refine .inl ⟨hc, by rw [hsn]; exact hc, own2, by rw [hsn]; exact hW2, d.trans d2⟩
    · have hE : CaS.backs n L a = (CaS.backs n (L.take i) a).1.back1 n L[i] := by
        have := CaS.backs_err n (L.drop (i + 1)) (L.take (i + 1)) a (by rw [hsn]; exact hc)
        rw [List.take_append_drop] at this
        rw [this, hsn]
      exact .inr ⟨hc, by rw [hE], by rw [hE]; exact hc, own2, by rw [hE]; exact hW2, d.trans d2⟩
  · rintro e W (⟨rfl, hz, own', hW, d⟩ | ⟨i, cd, hi, hcd, rfl, rfl, hne, own', hW, d⟩)
    · rw [List.take_length] at hz hW
      exact ⟨own', hW, d, .inl ⟨hz, rfl⟩⟩
    · exact ⟨own', hW, d, .inr ⟨hne, i, rfl⟩⟩
theorem wb_cleans (hX : CaAt own X c n p a) (hf : a.Fit N) {L : List Nat} (hN : N + L.length * (n.pa + 1) ≤ 50000) (ht : a.Tie n none) (hlen : L.length ≤ 4096) {lb : Nat} {v : Value} (hl : ListAt own X lb v L) :
    Calls Tryz.prog 90 #[.func (.func 92) #[ptr c] #[], ptr lb] X (CaOut own X c n p (CaS.cleans n L 0 a).1 (.tuple #[.int .i64 ((CaS.cleans n L 0 a).2.1 : Int), .int .i64 (CaS.cleans n L 0 a).2.2])) := by
  refine (wb_eachB (St := fun i W => (CaS.cleans n (L.take i) 0 a).2.2 = 0 ∧ (CaS.cleans n (L.take i) 0 a).2.1 = i ∧ ∃ own', CaAt own' W c n p (CaS.cleans n (L.take i) 0 a).1 ∧ Did own own' X W)
    (Er := fun i cd W => cd = (CaS.cleans n L 0 a).2.2 ∧ (CaS.cleans n L 0 a).2.1 = i ∧ ∃ own', CaAt own' W c n p (CaS.cleans n L 0 a).1 ∧ Did own own' X W)
    92 (ptr c) L v lb X (enters_of Tryz.func92 (by kernel_rfl) rfl) hlen ?_ ?_ ⟨rfl, rfl, own, hX, Did.refl hX.far⟩).mono ?_
  · rintro i W hi ⟨-, -, own', -, d⟩
    have := hl.did d
    exact ⟨cell_of_block this.box 0, this.sl⟩
  · rintro i hi W ⟨hz, hzi, own', hW, d⟩
    obtain ⟨f1, f2, f3⟩ := CaS.cleans_fit (n := n) (L.take i) 0 hf hX.nx1 ht
    rw [List.length_take, Nat.min_eq_left (Nat.le_of_lt hi)] at f1
    have hm : i * (n.pa + 1) ≤ L.length * (n.pa + 1) := Nat.mul_le_mul_right _ (Nat.le_of_lt hi)
    refine (ca_tidy hW f1 (by omega) f3 (L[i] : Int)).mono ?_
    rintro e W2 ⟨rfl, own2, hW2, d2⟩
    have hsn := CaS.cleans_snoc n L[i] (L.take i) 0 a
    rw [← take_next hi, ite_ne hz, List.length_take, Nat.min_eq_left (Nat.le_of_lt hi), Nat.zero_add] at hsn
    refine ⟨_, rfl, ?_⟩
    by_cases hc : ((CaS.cleans n (L.take i) 0 a).1.cleaned n (L[i] : Int)).2 = 0
    · have hS : CaS.cleans n (L.take (i + 1)) 0 a = (((CaS.cleans n (L.take i) 0 a).1.cleaned n (L[i] : Int)).1, i + 1, 0) := by rw [hsn]; exact ite_ne hc
      refine .inl ⟨hc, by rw [hS], by rw [hS], own2, by rw [hS]; exact hW2, d.trans d2⟩
    · have hS : CaS.cleans n (L.take (i + 1)) 0 a = (((CaS.cleans n (L.take i) 0 a).1.cleaned n (L[i] : Int)).1, i, ((CaS.cleans n (L.take i) 0 a).1.cleaned n (L[i] : Int)).2) := by rw [hsn]; exact ite_yes hc
      have hE : CaS.cleans n L 0 a = (((CaS.cleans n (L.take i) 0 a).1.cleaned n (L[i] : Int)).1, i, ((CaS.cleans n (L.take i) 0 a).1.cleaned n (L[i] : Int)).2) := by
        have := CaS.cleans_err n (L.drop (i + 1)) (L.take (i + 1)) 0 a (by rw [hS]; exact hc)
        rw [List.take_append_drop] at this
        rw [this, hS]
      exact .inr ⟨hc, by rw [hE], by rw [hE], own2, by rw [hE]; exact hW2, d.trans d2⟩
  · rintro e W (⟨rfl, hz, hzi, own', hW, d⟩ | ⟨i, cd, hi, hcd, rfl, rfl, hi2, own', hW, d⟩)
    · rw [List.take_length] at hz hzi hW
      exact ⟨by rw [hzi, hz], own', hW, d⟩
    · exact ⟨by rw [hi2], own', hW, d⟩
end
end Go.Proofs.YtnadilfobmgebaaGreatDoor
namespace Go.Proofs.YtnadilfobmgebaaGreatDoor
open Go Go.RowKit Go.Shelf
attribute [local go_sem] Oper.semAt_some
def CaS.wstep (n : CaN) (a : CaS) (m : Int) : CaS × Nat × Int := if m < 1 then (a, 0, 1) else a.step n m.toNat
section
variable {own : Nat → Nat} {w w' : World} {c : Nat} {n : CaN} {p : CaP} {a : CaS} {N : Nat}
theorem fin_put {own3 : Nat → Nat} {W : World} {b : CaS} (h3 : CaAt own3 W c n p b) (d : Did own own3 w W) {D : Nat} (hD : w.heap.size ≤ D) (oD : own3 D = 0) (h : CaAt own w c n p a) (o : Obj) : CaAt own3 (W.putObj D o) c n p b ∧ Did own own3 w (W.putObj D o) := by
  have hn1 := h.nib.lt
  have hn2 := h.tur.lt
  refine ⟨h3.nobody (upd_put W D o) (fun j e => by subst e; exact ⟨oD, by omega, by omega⟩), ⟨d.upd.new (upd_put W D o) (fun i hi e => by omega), d.old, d.new, fun j hj => d.far j (by have := (upd_put W D o).size; omega)⟩⟩
set_option maxRecDepth 100000 in
set_option maxHeartbeats 2000000 in
theorem wb_step (h : CaAt own w c n p a) (hf : a.Fit N) (hN : N + n.bl * (n.pa + 2) ≤ 50000) (ht : a.Tie n none) (m : Int) :
    Calls Tryz.prog 40 #[ptr c, .int .i64 m] w (CaOut own w c n p (a.wstep n m).1 (.tuple #[.int .i64 ((a.wstep n m).2.1 : Int), .int .i64 (a.wstep n m).2.2])) := by
  obtain ⟨A, hA⟩ : ∃ A, A = w.heap.size := ⟨_, rfl⟩
  obtain ⟨w1, hw1⟩ : ∃ w1, w1 = (w.alloc (.cells #[ptr c] 95)).alloc (.cells #[.int .i64 m] 3) := ⟨_, rfl⟩
  have hu1 : Upd (fun _ => False) w w1 := by rw [hw1]; exact ((Upd.refl _ w).alloc _).alloc _
  have ga : w1.heap[A]? = some (.cells #[ptr c] 95 (0, 0)) := by rw [hw1, hA]; exact (Below.heap_alloc _ _ _ (by simp)).trans (heap_alloc_last w _ rfl)
  have gm : w1.heap[A + 1]? = some (.cells #[.int .i64 m] 3 (0, 0)) := by rw [hw1, hA]; exact heap_alloc_last _ _ (by simp)
  have hz1 : w1.heap.size = A + 2 := by rw [hw1, hA]; simp
  have k1 := cell_of_block gm 0
  have k2 := cell_of_block ga 0
  simp at k1 k2
  have HW1 := Lib.hid (And.intro hw1 (And.intro ga (And.intro gm (And.intro hz1 hu1))))
  have HH := Lib.hid (And.intro h (And.intro hf (And.intro hN ht)))
  clear hw1 ga gm hz1 hu1 h hf hN ht
  obtain ⟨R, hR⟩ : ∃ R, R = a.wstep n m := ⟨_, rfl⟩
  rw [← hR]
  unfold CaS.wstep at hR
  refine (callsIn_wide (n := 4)).1 ?_
  refine callsIn_of_wp_marks Tryz.func40 rfl trivial ?_ rfl
  simp only [Tryz.ntmps40, List.size_toArray, List.length_cons, List.length_nil, Nat.reduceAdd, Nat.reduceSub, Array.replicate_succ, Array.replicate_zero, List.push_toArray, List.append_toArray, List.nil_append, List.cons_append]
  refine wpIn_wide.2 ?_
  go_wp2_with fail
  rw [← HW1.out.1, ← hA]
  have HA := Lib.hid hA
  clear hA
  refine wp_scope_straight ?_
  by_cases hm : m < 1
  · have hr := hR
    rw [if_pos hm] at hr
    have q0 : decide (m < 1) = true := by simpa using hm
    have HR := Lib.hid hr
    clear hr hR hm
    go_wp2_with fail
    rw [Exit.noGoto_ret]
    have hr := HR.out
    subst hr
    exact ⟨_, results_tmp2 rfl _ _ _, rfl, own, HH.out.1.new HW1.out.2.2.2.2, HH.out.1.didNew HW1.out.2.2.2.2⟩
  · have hr := hR
    rw [if_neg hm] at hr
    have q0 : decide (m < 1) = false := by simpa using hm
    obtain ⟨M, rfl⟩ := Int.eq_ofNat_of_zero_le (show 0 ≤ m by omega)
    rw [Int.toNat_natCast] at hr
    have HR := Lib.hid hr
    have HM : Hid (1 ≤ M) := (by omega : 1 ≤ M)
    clear hr hR hm
    obtain ⟨w2, hw2⟩ : ∃ w2, w2 = w1.alloc (.cells #[.slice none 0 0] 100) := ⟨_, rfl⟩
    have hu2 : Upd (fun _ => False) w1 w2 := by rw [hw2]; exact (Upd.refl _ w1).alloc _
    have gl2 : w2.heap[A + 2]? = some (.cells #[.slice none 0 0] 100 (0, 0)) := by rw [hw2]; exact heap_alloc_last w1 _ HW1.out.2.2.2.1.symm
    have k3 := hu2.cellv k2 (fun h => h)
    have hz2 : w2.heap.size = A + 3 := by rw [hw2]; simp; exact HW1.out.2.2.2.1
    have h2 := (HH.out.1.new HW1.out.2.2.2.2).new hu2
    have HD := Lib.hid (ca_dirty (w := w2) (c := c) trivial)
    obtain ⟨w3, hw3⟩ : ∃ w3, w3 = w2.alloc (.cells #[ptr c] 95) := ⟨_, rfl⟩
    have hu3 : Upd (fun _ => False) w2 w3 := by rw [hw3]; exact (Upd.refl _ w2).alloc _
    have hz3 : w3.heap.size = A + 4 := by rw [hw3]; simp; omega
    have gB : w3.heap[A + 3]? = some (.cells #[ptr c] 95 (0, 0)) := by rw [hw3]; exact heap_alloc_last w2 _ hz2.symm
    have gL3 := hu3.blockv gl2
    have hvl : (vis (spanL a.ps 0 n.bl) 0).length ≤ 4096 := by
      have h1 := visTo_len (spanL a.ps 0 n.bl) 0 (spanL a.ps 0 n.bl).length
      have h3 := HH.out.1.ok.b2
      have h4 : (spanL a.ps 0 n.bl).length ≤ n.bl := by simp [spanL]; omega
      exact Nat.le_trans h1 (by omega)
    have HO := Lib.hid (dirt_o (h2.new hu3) (A + 3) (A + 2) (w3.heap.size + 1) gB (by omega) (by omega) (by omega) (4 - 1))
    obtain ⟨i0, hi, hz0, hzz, hzb⟩ := info_parts infoI9s
    have hbx0 : boxesN (A + 2) [] w3 := ⟨_, gL3, World.ownsRow_nil _ _ _ _⟩
    have hB3 : Below (A + 2) w1 w3 := by
      rw [← HW1.out.2.2.2.1]
      exact below_upd (below_upd (Below.refl _ w1) hu2 (Nat.le_refl _) (fun k h => h.elim)) hu3 (Nat.le_refl _) (fun k h => h.elim)
    have HW2 := Lib.hid (And.intro hw2 (And.intro hw3 (And.intro hz2 (And.intro hz3 hB3))))
    have hmf : ∀ (fn : Fn) (first cap : Array Value) (w : World), (Instr.makeFunc fn first cap).run Tryz.prog w = .ok (.func fn first cap) w := fun _ _ _ _ => rfl
    clear hw2 hu2 gl2 hz2 h2 hu3 hz3 gB gL3 hB3 hw3
    go_wp2_with fail
    refine wp_label ?_
    rw [← HW2.out.1, HW1.out.2.2.2.1]
    go_wp2_with fail
    refine HD.out.mono ?_
    rintro e w4 ⟨rfl, hw4⟩
    rw [← HW2.out.2.1] at hw4
    subst hw4
    rw [HW2.out.2.2.1]
    clear HD k3
    go_wp2_with fail
    refine (wpIn_wide (n := 4)).1 ?_
    refine' wpIn_rangeO (n := 4) (gf := 143) (lb := #[.pointer (some ⟨A + 3, 0, none⟩)]) rfl (enters_of Tryz.func143 (by kernel_rfl) rfl)
      HO.out (fun h g => h.trans g) (fun W o o' _ _ => KpD.put W _) (Below.refl _ _) (fun _ => rfl)
      (fun pre X => (boxesN (A + 2) pre X ∧ Below (A + 2) w1 X) ∧ pre.length ≤ M)
      (fun cc pre X => cc = .exit 0 ∧ ∃ pre' x, pre = pre' ++ [x] ∧ pre'.length = M ∧ boxesN (A + 2) pre' X ∧ Below (A + 2) w1 X)
      (OwnFrom.and (OwnFrom.and (Own.from (boxesN_own (A + 2)) _) (ownFrom_below (by rw [HW1.out.2.2.2.1]; exact Nat.le_refl _) (by rw [HW2.out.2.2.2.1]; omega))) (ownFrom_pure _ (fun (pre : List Nat) => pre.length ≤ M)))
      (fun cc pre X Y row hs hg hr => by
        obtain ⟨h1, pre', x, h2, h3, h4, h5⟩ := hs
        exact ⟨h1, pre', x, h2, h3, (Own.from (boxesN_own (A + 2)) _) pre' X Y row h4 hg hr, (ownFrom_below (β := Unit) (n₀ := A + 2) (by rw [HW1.out.2.2.2.1]; exact Nat.le_refl _) (by rw [HW2.out.2.2.2.1]; omega)) () X Y row h5 hg hr⟩)
      ⟨⟨hbx0, HW2.out.2.2.2.2⟩, Nat.zero_le _⟩
      (_ : Nat → Act)
      ?assign ?body ?done ?stop
    case assign =>
      rintro l' x X K hK
      gi_wp2
      exact hK
    case body =>
      rintro l' pre x X ⟨⟨⟨v, hv, hr1⟩, hB⟩, hle⟩ hlt
      have hWs : A + 2 ≤ X.heap.size := by have h1 := hB.size; have h2 := HW1.out.2.2.2.1; omega
      have hcv := hv.cell
      have gmX := (hB.block (A + 1) (by omega)).trans HW1.out.2.2.1
      have cm := cell_of_block gmX 0
      simp at cm
      obtain ⟨av, cv, rfl⟩ := (Sl.of_own hr1).rd.nil_iff
      by_cases hx : pre.length = M
      · have q1 : ((pre.length : Int) == (M : Int)) = true := by simp [hx]
        have HX := Lib.hid (And.intro hv (And.intro hr1 (And.intro hB hx)))
        clear hv hr1 hB hx gmX hle
        gi_wp2
        exact ⟨KeepsFrom.refl _ _, Upd.refl _ _, rfl, pre, x, rfl, HX.out.2.2.2, ⟨_, HX.out.1, HX.out.2.1⟩, HX.out.2.2.1⟩
      · have q1 : ((pre.length : Int) == (M : Int)) = false := by simp; omega
        have HX := Lib.hid (And.intro hx hle)
        clear hx hle gmX
        gi_wp2_with (gi_at_builtin; refine wpListIn_append_own_at _ rfl _ _ 100 rfl (A + 2) 3 i0 (.int .i64 0) 1 8 Tryz.underlying100 hi hz0 hzz hzb rfl (by decide) _ _ _ rfl (hr1.alloc _) ⟨X.heap.size, 0, none⟩ 1 1 [.int .i64 (x : Int)] rfl rfl (cell_one_new _ _ _) (by simp [Value.oneCell']) (by unfold maxLen; omega) (by omega) (by simp; omega) ?_; intro v' w1' hown' hgrow _ hfrom; obtain ⟨gv, capv, rfl⟩ := ownsRow_succ hown'; obtain ⟨hv1, hv2, hrv, hk2, hb2⟩ := hv.appended (by decide) hr1 hWs (Nat.le_refl _) hown' hgrow; have hkp := kpd_append (M1 := w4.heap.size + 1) (v' := .slice (some ⟨gv, 0, none⟩) (pre.length + 1) capv) hr1 hgrow; have hc1 := hv1.cell; have hf1 := hv1.frozen)
        exact ⟨hk2.from _, hkp, ⟨⟨_, hv2, by simpa [ints] using hrv⟩, hB.trans hb2⟩, by have := HX.out; simp; omega⟩
    case done =>
      rintro D ys X hD hys ⟨⟨⟨v, hv, hr1⟩, hB⟩, hle⟩ hK
      obtain ⟨L, hLe⟩ : ∃ L, L = ys := ⟨_, rfl⟩
      have hL : L = (dirtL a.ps).take M := by rw [hLe, hys, List.take_of_length_le (by rw [← hys]; exact hle)]
      rw [← hLe] at hr1
      clear hLe hys hle
      have h1 := HH.out.1.new HW1.out.2.2.2.2
      have hj0 : ∀ j, A + 2 ≤ j → own j = 0 := fun j hj => HH.out.1.far j (by have := HA.out; omega)
      have hn1 := HH.out.1.nib.lt
      have hn2 := HH.out.1.tur.lt
      have hAw := HA.out
      have hX := h1.nobody (upd_below hB) (fun j hj => ⟨hj0 j hj, by omega, by omega⟩)
      have hz1 := HW1.out.2.2.2.1
      have dX : Did own own w X := ⟨(HH.out.1.didNew HW1.out.2.2.2.2).upd.new (upd_below hB) (fun i hi hs => by omega), fun _ _ => rfl, fun j hj => by rw [HH.out.1.far j hj]; decide, fun j hj => hX.far j hj⟩
      have gA := (hB.block A (by omega)).trans HW1.out.2.1
      have oA : own A = 0 := HH.out.1.far A (by omega)
      have hLA : ListAt own X (A + 2) v L := ⟨hv, hj0 _ (Nat.le_refl _), Sl.of_own hr1, fun g hg => by
        obtain ⟨-, ⟨rfl, -⟩ | ⟨g', cap, cur, rfl, hb, -, -⟩⟩ := hr1
        · cases hg
        · cases hg; exact hj0 _ hb⟩
      have oD : own D = 0 := hj0 D (by have := HW2.out.2.2.2.1; omega)
      have hLn : ∀ k ∈ L, k < n.bl := fun k hk => by
        rw [hL] at hk
        have := (dirtL_mem.1 (List.mem_of_mem_take hk)).1
        rwa [HH.out.1.pl] at this
      have hLl : L.length ≤ n.bl := by
        have h3 := dirtL_len a.ps
        rw [HH.out.1.pl] at h3
        rw [hL, List.length_take]
        omega
      have hr := HR.out
      unfold CaS.step at hr
      rw [← hL] at hr
      have hb2 := HH.out.1.ok.b2
      have cA := cell_of_block gA 0
      simp at cA
      obtain ⟨av, cv, rfl⟩ := hLA.sl.rd.nil_iff
      have cL := cell_of_block hLA.box 0
      simp at cL
      have HDv := Lib.hid (ca_devices hX)
      have HX := Lib.hid (And.intro hX (And.intro dX (And.intro gA (And.intro oA (And.intro hLA (And.intro oD (And.intro hK (And.intro hLn (And.intro hLl hr)))))))))
      clear h1 hj0 hn1 hn2 hAw hX hz1 dX gA oA hLA oD hLn hLl hr hK hv hr1 hB hb2 hL
      go_wp2_with fail
      refine HDv.out.mono ?_
      rintro e X1 ⟨rfl, own1, hX1, d1⟩
      obtain ⟨hX, dX, gA, oA, hLA, oD, hK, hLn, hLl, hr⟩ := HX.out
      obtain ⟨X2, hX2⟩ : ∃ X2, X2 = X1.alloc (.cells #[ptr p.back] 29) := ⟨_, rfl⟩
      have huX : Upd (fun _ => False) X1 X2 := by rw [hX2]; exact (Upd.refl _ X1).alloc _
      obtain ⟨gb, hgb⟩ : ∃ gb, gb = X1.heap.size := ⟨_, rfl⟩
      have gG : X2.heap[gb]? = some (.cells #[ptr p.back] 29 (0, 0)) := by rw [hX2, hgb]; exact heap_alloc_last X1 _ rfl
      have oG : own1 gb = 0 := hX1.far _ (by omega)
      have h2 := hX1.new huX
      have d2 := d1.trans (hX1.didNew huX)
      obtain ⟨gA2, oA2⟩ := d2.still gA oA
      obtain ⟨gD2, oD2⟩ := d2.still hK oD
      have hL2 := hLA.did d2
      have cA2 := cell_of_block gA2 0
      have cL2 := cell_of_block hL2.box 0
      have cG2 := cell_of_block gG 0
      simp at cA2 cL2 cG2
      have hN := HH.out.2.2.1
      have hmul : L.length * (n.pa + 1) + L.length ≤ n.bl * (n.pa + 2) := by
        have e1 : L.length * (n.pa + 1) + L.length = L.length * (n.pa + 2) := (Nat.mul_succ L.length (n.pa + 1)).symm
        have e2 : L.length * (n.pa + 2) ≤ n.bl * (n.pa + 2) := Nat.mul_le_mul_right _ hLl
        omega
      have hb2 := HH.out.1.ok.b2
      have HE := Lib.hid (wb_backs h2 HH.out.2.1 (by omega) hLn (by omega) gA2 oA2 gG oG hL2)
      have H2 := Lib.hid (And.intro h2 (And.intro (dX.trans d2) (And.intro gD2 (And.intro oD2 (And.intro hL2 (And.intro hmul (And.intro hLl (And.intro hr (And.intro (And.intro gA2 oA2) (And.intro gG oG))))))))))
      have HG := Lib.hid (And.intro hX2 hgb)
      clear hX1 d1 hX dX gA oA hLA oD hK hLn hLl hr huX hX2 gG oG h2 d2 gA2 oA2 gD2 oD2 hL2 hN hmul hb2 HDv HX hgb cA cL
      go_wp2_with fail
      rw [show X1.alloc (.cells #[.pointer (some ⟨p.back, 0, none⟩)] 29) = X2 from HG.out.1.symm, ← HG.out.2]
      have hst0 : ∀ B, B = CaS.backs n L a → R = (if B.2 ≠ 0 then (B.1, 0, B.2) else if L = [] then (B.1, 0, 0) else if (flushR B.1.bF B.1.bO B.1.bP).cd ≠ 0 then (B.1.fb, 0, (flushR B.1.bF B.1.bO B.1.bP).cd) else CaS.cleans n L 0 B.1.fb) := fun B e => by
        have h0 := H2.out.2.2.2.2.2.2.2.1
        rw [h0, e]
        rfl
      obtain ⟨f1, f2, f3, f4, -⟩ := CaS.backs_fit (n := n) L HH.out.2.1
      have tB : (CaS.backs n L a).1.Tie n none := by
        have ht := HH.out.2.2.2
        show TieL n.bl n.sl (CaS.backs n L a).1.ps (CaS.backs n L a).1.st (CaS.backs n L a).1.K none
        rw [f2, f3, f4]
        exact ht
      refine HE.out.mono ?_
      obtain ⟨B, hB⟩ : ∃ B, B = CaS.backs n L a := ⟨_, rfl⟩
      have hst := hst0 B hB
      clear hst0
      rw [← hB] at f1 tB ⊢
      clear f2 f3 f4 HE
      obtain ⟨b, cd⟩ := B
      simp only at hst f1 tB ⊢
      replace hB := Lib.hid hB
      have HST := Lib.hid (And.intro hst (And.intro f1 tB))
      clear hst f1 tB
      rintro e X3 ⟨own3, h3, d3, ⟨hz, rfl⟩ | ⟨hne, i, rfl⟩⟩
      rotate_left
      · have q9 : (cd == 0) = false := by simpa using hne
        have hr := HST.out.1
        rw [if_pos hne] at hr
        obtain ⟨gD3, oD3⟩ := d3.still H2.out.2.2.1 H2.out.2.2.2.1
        have HF := Lib.hid (And.intro gD3 (fin_put h3 (H2.out.2.1.trans d3) (by have h5 := HW2.out.2.2.2.1; have h6 := HA.out; omega) oD3 HH.out.1 (.deferred none)))
        have HR3 := Lib.hid hr
        clear gD3 oD3 h3 d3 cA2 cL2 cG2 hne hr
        go_wp2_with fail
        rw [Exit.noGoto_ret]
        refine ⟨by simp, .inl ⟨_, _, rfl, run_takeDeferred HF.out.1, ?_⟩⟩
        exact ⟨_, results_tmp2 rfl _ _ _, by rw [HR3.out]; rfl, own3, by rw [HR3.out]; exact HF.out.2.1, HF.out.2.2⟩
      subst hz
      have hr := HST.out.1
      rw [if_neg (fun e => e rfl)] at hr
      have hl3 := H2.out.2.2.2.2.1.did d3
      have cA3 := cell_of_block (d3.still H2.out.2.2.2.2.2.2.2.2.1.1 H2.out.2.2.2.2.2.2.2.2.1.2).1 0
      have cL3 := cell_of_block hl3.box 0
      have cG3 := cell_of_block (d3.still H2.out.2.2.2.2.2.2.2.2.2.1 H2.out.2.2.2.2.2.2.2.2.2.2).1 0
      simp at cA3 cL3 cG3
      have HR2 := Lib.hid hr
      clear hr cA2 cL2 cG2
      by_cases hL0 : L.length = 0
      · obtain rfl : L = [] := List.eq_nil_of_length_eq_zero hL0
        have hr := HR2.out
        rw [if_pos rfl] at hr
        have HC := Lib.hid (wb_cleans h3 HST.out.2.1 (L := []) (by simp; have := HH.out.2.2.1; omega) HST.out.2.2 (by simp) hl3)
        replace HC : Hid (Calls Tryz.prog 90 #[.func (.func 92) #[ptr c] #[], ptr (A + 2)] X3 (CaOut own3 X3 c n p b (.tuple #[.int .i64 0, .int .i64 0]))) := HC
        have H3 := Lib.hid (And.intro d3 hr)
        clear h3 d3 hr hl3 hL0
        go_wp2_with fail
        refine HC.out.mono ?_
        rintro e X5 ⟨rfl, own5, h5, d5⟩
        obtain ⟨d3, hr⟩ := H3.out
        have d35 := d3.trans d5
        obtain ⟨gD5, oD5⟩ := d35.still H2.out.2.2.1 H2.out.2.2.2.1
        have HF := Lib.hid (And.intro gD5 (fin_put h5 (H2.out.2.1.trans d35) (by have h5 := HW2.out.2.2.2.1; have h6 := HA.out; omega) oD5 HH.out.1 (.deferred none)))
        have HR3 := Lib.hid hr
        clear gD5 oD5 h5 d5 d3 d35 cA3 cL3 cG3 hr
        go_wp2_with fail
        rw [Exit.noGoto_ret]
        refine ⟨by simp, .inl ⟨_, _, rfl, run_takeDeferred HF.out.1, ?_⟩⟩
        exact ⟨_, results_tmp2 rfl _ _ _, by rw [HR3.out]; rfl, own5, by rw [HR3.out]; exact HF.out.2.1, HF.out.2.2⟩
      have hr := HR2.out
      rw [if_neg (fun e => hL0 (by rw [e]; rfl))] at hr
      have q8 : (0 : Int) < (L.length : Int) := by omega
      have HFl := Lib.hid (ca_back_flush h3)
      have H3 := Lib.hid (And.intro d3 (And.intro hl3 hr))
      clear h3 d3 hr hl3 hL0
      go_wp2_with fail
      refine HFl.out.mono ?_
      rintro e X4 ⟨rfl, own4, h4, d4⟩
      replace h4 : CaAt own4 X4 c n p b.fb := h4
      obtain ⟨d3, hl3, hr⟩ := H3.out
      have gA4 := d4.still (d3.still H2.out.2.2.2.2.2.2.2.2.1.1 H2.out.2.2.2.2.2.2.2.2.1.2).1 (d3.still H2.out.2.2.2.2.2.2.2.2.1.1 H2.out.2.2.2.2.2.2.2.2.1.2).2
      have cA4 := cell_of_block gA4.1 0
      have hl4 := hl3.did d4
      have d34 := d3.trans d4
      simp at cA4
      have HFd := Lib.hid (HST.out.2.1.fb)
      have HTd := Lib.hid (show b.fb.Tie n none from HST.out.2.2)
      generalize (flushR b.bF b.bO b.bP).cd = cdf at *
      by_cases hcf : cdf = 0
      rotate_left
      · have q9 : (cdf == 0) = false := by simpa using hcf
        rw [if_pos hcf] at hr
        obtain ⟨gD4, oD4⟩ := d34.still H2.out.2.2.1 H2.out.2.2.2.1
        have HF := Lib.hid (And.intro gD4 (fin_put h4 (H2.out.2.1.trans d34) (by have h5 := HW2.out.2.2.2.1; have h6 := HA.out; omega) oD4 HH.out.1 (.deferred none)))
        have HR3 := Lib.hid hr
        clear gD4 oD4 h4 d4 d3 d34 cA3 cL3 cG3 cA4 hcf hr hl3 hl4 gA4
        go_wp2_with fail
        rw [Exit.noGoto_ret]
        refine ⟨by simp, .inl ⟨_, _, rfl, run_takeDeferred HF.out.1, ?_⟩⟩
        exact ⟨_, results_tmp2 rfl _ _ _, by rw [HR3.out]; rfl, own4, by rw [HR3.out]; exact HF.out.2.1, HF.out.2.2⟩
      subst hcf
      rw [if_neg (fun e => e rfl)] at hr
      have hmul := H2.out.2.2.2.2.2.1
      have HC := Lib.hid (wb_cleans h4 HFd.out (L := L) (by have := HH.out.2.2.1; omega) HTd.out (by have h5 := H2.out.2.2.2.2.2.2.1; have h6 := HH.out.1.ok.b2; omega) hl4)
      rw [← hr] at HC
      have H4 := Lib.hid d34
      clear h4 d4 d3 d34 cA3 cL3 cG3 hr hl3 hl4 hmul gA4
      go_wp2_with fail
      refine HC.out.mono ?_
      rintro e X5 ⟨rfl, own5, h5, d5⟩
      have d35 := H4.out.trans d5
      obtain ⟨gD5, oD5⟩ := d35.still H2.out.2.2.1 H2.out.2.2.2.1
      have HF := Lib.hid (And.intro gD5 (fin_put h5 (H2.out.2.1.trans d35) (by have h5 := HW2.out.2.2.2.1; have h6 := HA.out; omega) oD5 HH.out.1 (.deferred none)))
      clear gD5 oD5 h5 d5 d35 cA4
      go_wp2_with fail
      rw [Exit.noGoto_ret]
      refine ⟨by simp, .inl ⟨_, _, rfl, run_takeDeferred HF.out.1, ?_⟩⟩
      exact ⟨_, results_tmp2 rfl _ _ _, rfl, own5, HF.out.2.1, HF.out.2.2⟩
    case stop =>
      rintro D cc pre X hD hsp ⟨rfl, L, x, rfl, hlen, ⟨v, hv, hr1⟩, hB⟩ hK
      have hL : L = (dirtL a.ps).take M := by
        obtain ⟨t, ht⟩ := hsp
        rw [← ht, List.append_assoc, List.take_left' hlen]
      clear hsp hlen
      gi_wp2_with fail
      have h1 := HH.out.1.new HW1.out.2.2.2.2
      have hj0 : ∀ j, A + 2 ≤ j → own j = 0 := fun j hj => HH.out.1.far j (by have := HA.out; omega)
      have hn1 := HH.out.1.nib.lt
      have hn2 := HH.out.1.tur.lt
      have hAw := HA.out
      have hX := h1.nobody (upd_below hB) (fun j hj => ⟨hj0 j hj, by omega, by omega⟩)
      have hz1 := HW1.out.2.2.2.1
      have dX : Did own own w X := ⟨(HH.out.1.didNew HW1.out.2.2.2.2).upd.new (upd_below hB) (fun i hi hs => by omega), fun _ _ => rfl, fun j hj => by rw [HH.out.1.far j hj]; decide, fun j hj => hX.far j hj⟩
      have gA := (hB.block A (by omega)).trans HW1.out.2.1
      have oA : own A = 0 := HH.out.1.far A (by omega)
      have hLA : ListAt own X (A + 2) v L := ⟨hv, hj0 _ (Nat.le_refl _), Sl.of_own hr1, fun g hg => by
        obtain ⟨-, ⟨rfl, -⟩ | ⟨g', cap, cur, rfl, hb, -, -⟩⟩ := hr1
        · cases hg
        · cases hg; exact hj0 _ hb⟩
      have oD : own D = 0 := hj0 D (by have := HW2.out.2.2.2.1; omega)
      have hLn : ∀ k ∈ L, k < n.bl := fun k hk => by
        rw [hL] at hk
        have := (dirtL_mem.1 (List.mem_of_mem_take hk)).1
        rwa [HH.out.1.pl] at this
      have hLl : L.length ≤ n.bl := by
        have h3 := dirtL_len a.ps
        rw [HH.out.1.pl] at h3
        rw [hL, List.length_take]
        omega
      have hr := HR.out
      unfold CaS.step at hr
      rw [← hL] at hr
      have hb2 := HH.out.1.ok.b2
      have cA := cell_of_block gA 0
      simp at cA
      obtain ⟨av, cv, rfl⟩ := hLA.sl.rd.nil_iff
      have cL := cell_of_block hLA.box 0
      simp at cL
      have HDv := Lib.hid (ca_devices hX)
      have HX := Lib.hid (And.intro hX (And.intro dX (And.intro gA (And.intro oA (And.intro hLA (And.intro oD (And.intro hK (And.intro hLn (And.intro hLl hr)))))))))
      clear h1 hj0 hn1 hn2 hAw hX hz1 dX gA oA hLA oD hLn hLl hr hK hv hr1 hB hb2 hL
      go_wp2_with fail
      refine HDv.out.mono ?_
      rintro e X1 ⟨rfl, own1, hX1, d1⟩
      obtain ⟨hX, dX, gA, oA, hLA, oD, hK, hLn, hLl, hr⟩ := HX.out
      obtain ⟨X2, hX2⟩ : ∃ X2, X2 = X1.alloc (.cells #[ptr p.back] 29) := ⟨_, rfl⟩
      have huX : Upd (fun _ => False) X1 X2 := by rw [hX2]; exact (Upd.refl _ X1).alloc _
      obtain ⟨gb, hgb⟩ : ∃ gb, gb = X1.heap.size := ⟨_, rfl⟩
      have gG : X2.heap[gb]? = some (.cells #[ptr p.back] 29 (0, 0)) := by rw [hX2, hgb]; exact heap_alloc_last X1 _ rfl
      have oG : own1 gb = 0 := hX1.far _ (by omega)
      have h2 := hX1.new huX
      have d2 := d1.trans (hX1.didNew huX)
      obtain ⟨gA2, oA2⟩ := d2.still gA oA
      obtain ⟨gD2, oD2⟩ := d2.still hK oD
      have hL2 := hLA.did d2
      have cA2 := cell_of_block gA2 0
      have cL2 := cell_of_block hL2.box 0
      have cG2 := cell_of_block gG 0
      simp at cA2 cL2 cG2
      have hN := HH.out.2.2.1
      have hmul : L.length * (n.pa + 1) + L.length ≤ n.bl * (n.pa + 2) := by
        have e1 : L.length * (n.pa + 1) + L.length = L.length * (n.pa + 2) := (Nat.mul_succ L.length (n.pa + 1)).symm
        have e2 : L.length * (n.pa + 2) ≤ n.bl * (n.pa + 2) := Nat.mul_le_mul_right _ hLl
        omega
      have hb2 := HH.out.1.ok.b2
      have HE := Lib.hid (wb_backs h2 HH.out.2.1 (by omega) hLn (by omega) gA2 oA2 gG oG hL2)
      have H2 := Lib.hid (And.intro h2 (And.intro (dX.trans d2) (And.intro gD2 (And.intro oD2 (And.intro hL2 (And.intro hmul (And.intro hLl (And.intro hr (And.intro (And.intro gA2 oA2) (And.intro gG oG))))))))))
      have HG := Lib.hid (And.intro hX2 hgb)
      clear hX1 d1 hX dX gA oA hLA oD hK hLn hLl hr huX hX2 gG oG h2 d2 gA2 oA2 gD2 oD2 hL2 hN hmul hb2 HDv HX hgb cA cL
      go_wp2_with fail
      rw [show X1.alloc (.cells #[.pointer (some ⟨p.back, 0, none⟩)] 29) = X2 from HG.out.1.symm, ← HG.out.2]
      have hst0 : ∀ B, B = CaS.backs n L a → R = (if B.2 ≠ 0 then (B.1, 0, B.2) else if L = [] then (B.1, 0, 0) else if (flushR B.1.bF B.1.bO B.1.bP).cd ≠ 0 then (B.1.fb, 0, (flushR B.1.bF B.1.bO B.1.bP).cd) else CaS.cleans n L 0 B.1.fb) := fun B e => by
        have h0 := H2.out.2.2.2.2.2.2.2.1
        rw [h0, e]
        rfl
      obtain ⟨f1, f2, f3, f4, -⟩ := CaS.backs_fit (n := n) L HH.out.2.1
      have tB : (CaS.backs n L a).1.Tie n none := by
        have ht := HH.out.2.2.2
        show TieL n.bl n.sl (CaS.backs n L a).1.ps (CaS.backs n L a).1.st (CaS.backs n L a).1.K none
        rw [f2, f3, f4]
        exact ht
      refine HE.out.mono ?_
      obtain ⟨B, hB⟩ : ∃ B, B = CaS.backs n L a := ⟨_, rfl⟩
      have hst := hst0 B hB
      clear hst0
      rw [← hB] at f1 tB ⊢
      clear f2 f3 f4 HE
      obtain ⟨b, cd⟩ := B
      simp only at hst f1 tB ⊢
      replace hB := Lib.hid hB
      have HST := Lib.hid (And.intro hst (And.intro f1 tB))
      clear hst f1 tB
      rintro e X3 ⟨own3, h3, d3, ⟨hz, rfl⟩ | ⟨hne, i, rfl⟩⟩
      rotate_left
      · have q9 : (cd == 0) = false := by simpa using hne
        have hr := HST.out.1
        rw [if_pos hne] at hr
        obtain ⟨gD3, oD3⟩ := d3.still H2.out.2.2.1 H2.out.2.2.2.1
        have HF := Lib.hid (And.intro gD3 (fin_put h3 (H2.out.2.1.trans d3) (by have h5 := HW2.out.2.2.2.1; have h6 := HA.out; omega) oD3 HH.out.1 (.deferred none)))
        have HR3 := Lib.hid hr
        clear gD3 oD3 h3 d3 cA2 cL2 cG2 hne hr
        go_wp2_with fail
        rw [Exit.noGoto_ret]
        refine ⟨by simp, .inl ⟨_, _, rfl, run_takeDeferred HF.out.1, ?_⟩⟩
        exact ⟨_, results_tmp2 rfl _ _ _, by rw [HR3.out]; rfl, own3, by rw [HR3.out]; exact HF.out.2.1, HF.out.2.2⟩
      subst hz
      have hr := HST.out.1
      rw [if_neg (fun e => e rfl)] at hr
      have hl3 := H2.out.2.2.2.2.1.did d3
      have cA3 := cell_of_block (d3.still H2.out.2.2.2.2.2.2.2.2.1.1 H2.out.2.2.2.2.2.2.2.2.1.2).1 0
      have cL3 := cell_of_block hl3.box 0
      have cG3 := cell_of_block (d3.still H2.out.2.2.2.2.2.2.2.2.2.1 H2.out.2.2.2.2.2.2.2.2.2.2).1 0
      simp at cA3 cL3 cG3
      have HR2 := Lib.hid hr
      clear hr cA2 cL2 cG2
      by_cases hL0 : L.length = 0
      · obtain rfl : L = [] := List.eq_nil_of_length_eq_zero hL0
        have hr := HR2.out
        rw [if_pos rfl] at hr
        have HC := Lib.hid (wb_cleans h3 HST.out.2.1 (L := []) (by simp; have := HH.out.2.2.1; omega) HST.out.2.2 (by simp) hl3)
        replace HC : Hid (Calls Tryz.prog 90 #[.func (.func 92) #[ptr c] #[], ptr (A + 2)] X3 (CaOut own3 X3 c n p b (.tuple #[.int .i64 0, .int .i64 0]))) := HC
        have H3 := Lib.hid (And.intro d3 hr)
        clear h3 d3 hr hl3 hL0
        go_wp2_with fail
        refine HC.out.mono ?_
        rintro e X5 ⟨rfl, own5, h5, d5⟩
        obtain ⟨d3, hr⟩ := H3.out
        have d35 := d3.trans d5
        obtain ⟨gD5, oD5⟩ := d35.still H2.out.2.2.1 H2.out.2.2.2.1
        have HF := Lib.hid (And.intro gD5 (fin_put h5 (H2.out.2.1.trans d35) (by have h5 := HW2.out.2.2.2.1; have h6 := HA.out; omega) oD5 HH.out.1 (.deferred none)))
        have HR3 := Lib.hid hr
        clear gD5 oD5 h5 d5 d3 d35 cA3 cL3 cG3 hr
        go_wp2_with fail
        rw [Exit.noGoto_ret]
        refine ⟨by simp, .inl ⟨_, _, rfl, run_takeDeferred HF.out.1, ?_⟩⟩
        exact ⟨_, results_tmp2 rfl _ _ _, by rw [HR3.out]; rfl, own5, by rw [HR3.out]; exact HF.out.2.1, HF.out.2.2⟩
      have hr := HR2.out
      rw [if_neg (fun e => hL0 (by rw [e]; rfl))] at hr
      have q8 : (0 : Int) < (L.length : Int) := by omega
      have HFl := Lib.hid (ca_back_flush h3)
      have H3 := Lib.hid (And.intro d3 (And.intro hl3 hr))
      clear h3 d3 hr hl3 hL0
      go_wp2_with fail
      refine HFl.out.mono ?_
      rintro e X4 ⟨rfl, own4, h4, d4⟩
      replace h4 : CaAt own4 X4 c n p b.fb := h4
      obtain ⟨d3, hl3, hr⟩ := H3.out
      have gA4 := d4.still (d3.still H2.out.2.2.2.2.2.2.2.2.1.1 H2.out.2.2.2.2.2.2.2.2.1.2).1 (d3.still H2.out.2.2.2.2.2.2.2.2.1.1 H2.out.2.2.2.2.2.2.2.2.1.2).2
      have cA4 := cell_of_block gA4.1 0
      have hl4 := hl3.did d4
      have d34 := d3.trans d4
      simp at cA4
      have HFd := Lib.hid (HST.out.2.1.fb)
      have HTd := Lib.hid (show b.fb.Tie n none from HST.out.2.2)
      generalize (flushR b.bF b.bO b.bP).cd = cdf at *
      by_cases hcf : cdf = 0
      rotate_left
      · have q9 : (cdf == 0) = false := by simpa using hcf
        rw [if_pos hcf] at hr
        obtain ⟨gD4, oD4⟩ := d34.still H2.out.2.2.1 H2.out.2.2.2.1
        have HF := Lib.hid (And.intro gD4 (fin_put h4 (H2.out.2.1.trans d34) (by have h5 := HW2.out.2.2.2.1; have h6 := HA.out; omega) oD4 HH.out.1 (.deferred none)))
        have HR3 := Lib.hid hr
        clear gD4 oD4 h4 d4 d3 d34 cA3 cL3 cG3 cA4 hcf hr hl3 hl4 gA4
        go_wp2_with fail
        rw [Exit.noGoto_ret]
        refine ⟨by simp, .inl ⟨_, _, rfl, run_takeDeferred HF.out.1, ?_⟩⟩
        exact ⟨_, results_tmp2 rfl _ _ _, by rw [HR3.out]; rfl, own4, by rw [HR3.out]; exact HF.out.2.1, HF.out.2.2⟩
      subst hcf
      rw [if_neg (fun e => e rfl)] at hr
      have hmul := H2.out.2.2.2.2.2.1
      have HC := Lib.hid (wb_cleans h4 HFd.out (L := L) (by have := HH.out.2.2.1; omega) HTd.out (by have h5 := H2.out.2.2.2.2.2.2.1; have h6 := HH.out.1.ok.b2; omega) hl4)
      rw [← hr] at HC
      have H4 := Lib.hid d34
      clear h4 d4 d3 d34 cA3 cL3 cG3 hr hl3 hl4 hmul gA4
      go_wp2_with fail
      refine HC.out.mono ?_
      rintro e X5 ⟨rfl, own5, h5, d5⟩
      have d35 := H4.out.trans d5
      obtain ⟨gD5, oD5⟩ := d35.still H2.out.2.2.1 H2.out.2.2.2.1
      have HF := Lib.hid (And.intro gD5 (fin_put h5 (H2.out.2.1.trans d35) (by have h5 := HW2.out.2.2.2.1; have h6 := HA.out; omega) oD5 HH.out.1 (.deferred none)))
      clear gD5 oD5 h5 d5 d35 cA4
      go_wp2_with fail
      rw [Exit.noGoto_ret]
      refine ⟨by simp, .inl ⟨_, _, rfl, run_takeDeferred HF.out.1, ?_⟩⟩
      exact ⟨_, results_tmp2 rfl _ _ _, rfl, own5, HF.out.2.1, HF.out.2.2⟩
end
def rightP (hi lo ba sl : Int) : Prop := 0 ≤ lo ∧ lo ≤ hi ∧ hi ≤ sl ∧ 1 ≤ ba ∧ ba ≤ 64
instance (hi lo ba sl : Int) : Decidable (rightP hi lo ba sl) := by unfold rightP; exact inferInstance
def chkP (hi lo ba sl : Int) : Int := if rightP hi lo ba sl then 0 else 1
abbrev polV (hi lo ba : Int) : Value := .agg #[.int .i64 hi, .int .i64 lo, .int .i64 ba]
set_option maxRecDepth 100000 in
set_option maxHeartbeats 1000000 in
theorem wb_check (hi lo ba sl : Int) (w : World) : Calls Tryz.prog 42 #[polV hi lo ba, .int .i64 sl] w fun e w' => e = .returned (.int .i64 (chkP hi lo ba sl)) ∧ Below w.heap.size w w' := by
  obtain ⟨w1, hw1⟩ : ∃ w1, w1 = w.alloc (.cells #[.int .i64 hi, .int .i64 lo, .int .i64 ba] 94) := ⟨_, rfl⟩
  have g1 : w1.heap[w.heap.size]? = some (.cells #[.int .i64 hi, .int .i64 lo, .int .i64 ba] 94 (0, 0)) := by rw [hw1]; exact heap_alloc_last w _ rfl
  have hb1 : Below w.heap.size w w1 := by rw [hw1]; exact (Below.refl _ w).alloc (Nat.le_refl _) _
  have k0 := cell_of_block g1 0
  have k1 := cell_of_block g1 1
  have k2 := cell_of_block g1 2
  simp at k0 k1 k2
  have HW := Lib.hid (And.intro hw1 hb1)
  clear hw1 g1 hb1
  unfold chkP
  by_cases hR : rightP hi lo ba sl
  · rw [if_pos hR]
    obtain ⟨r1, r2, r3, r4, r5⟩ := hR
    go_enter Tryz.func42, Tryz.ntmps42
    go_upto_region 1 with fail
    rw [← HW.out.1]
    go_wp2
    go_ret
    exact ⟨rfl, HW.out.2⟩
  · rw [if_neg hR]
    have hN : lo < 0 ∨ hi < lo ∨ sl < hi ∨ ba < 1 ∨ 64 < ba := by unfold rightP at hR; omega
    clear hR
    go_enter Tryz.func42, Tryz.ntmps42
    go_upto_region 1 with fail
    rw [← HW.out.1]
    go_wp2
    all_goals
      go_ret
      exact ⟨rfl, HW.out.2⟩
def CaS.tick (n : CaN) (a : CaS) (hi lo ba : Int) : CaS × Nat × Int :=
  if chkP hi lo ba n.sl ≠ 0 then (a, 0, chkP hi lo ba n.sl) else if ((dirtL a.ps).length : Int) ≤ hi then (a, 0, 0) else a.wstep n (min (((dirtL a.ps).length : Int) - lo) ba)
section
variable {own : Nat → Nat} {w : World} {c : Nat} {n : CaN} {p : CaP} {a : CaS} {N : Nat}
set_option maxRecDepth 100000 in
set_option maxHeartbeats 1000000 in
theorem wb_tick (h : CaAt own w c n p a) (hf : a.Fit N) (hN : N + n.bl * (n.pa + 2) ≤ 50000) (ht : a.Tie n none) (hi lo ba : Int) :
    Calls Tryz.prog 43 #[ptr c, polV hi lo ba] w (CaOut own w c n p (a.tick n hi lo ba).1 (.tuple #[.int .i64 ((a.tick n hi lo ba).2.1 : Int), .int .i64 (a.tick n hi lo ba).2.2])) := by
  obtain ⟨w1, hw1⟩ : ∃ w1, w1 = w.alloc (.cells #[.int .i64 hi, .int .i64 lo, .int .i64 ba] 94) := ⟨_, rfl⟩
  have g1 : w1.heap[w.heap.size]? = some (.cells #[.int .i64 hi, .int .i64 lo, .int .i64 ba] 94 (0, 0)) := by rw [hw1]; exact heap_alloc_last w _ rfl
  have hu1 : Upd (fun _ => False) w w1 := by rw [hw1]; exact (Upd.refl _ w).alloc _
  have hud := (Upd.refl (fun _ => False) w1).drew
  have hc1 := (h.new hu1).new hud
  have d1 := h.didNew (hu1.trans hud)
  have r1 := range_of_block g1
  obtain ⟨m, hm⟩ : ∃ m, m = w.heap.size := ⟨_, rfl⟩
  rw [← hm] at g1 r1
  have hut := Tryz.underlying94
  have hsi : (Tryz.prog.info? 94).map (·.size) = some 3 := by kernel_rfl
  have hfs := run_field_sl (n.id : Int) (n.bl : Int) (n.sl : Int) (n.jo : Int) (n.pa : Int) (n.lo : Int) (n.ba : Int)
  have HS := Lib.hid (show Calls Tryz.prog 93 #[ptr c] w1.drew fun e w' => e = .returned (.agg #[.int .i64 n.id, .int .i64 n.bl, .int .i64 n.sl, .int .i64 n.jo, .int .i64 n.pa, .int .i64 n.lo, .int .i64 n.ba]) ∧ Below w1.drew.heap.size w1.drew w' from ca_super hc1)
  have HH := Lib.hid (And.intro hc1 (And.intro d1 (And.intro (hud.blockv g1) (And.intro hf (And.intro hN ht)))))
  obtain ⟨R, hR⟩ : ∃ R, R = a.tick n hi lo ba := ⟨_, rfl⟩
  rw [← hR]
  unfold CaS.tick at hR
  have hbl := Lib.hid (And.intro h.ok.s2 (And.intro h.ok.b2 h.pl))
  have HW := Lib.hid (And.intro hw1 hm)
  obtain ⟨cc, hcc⟩ : ∃ cc, cc = chkP hi lo ba n.sl := ⟨_, rfl⟩
  rw [← hcc] at hR
  have HR := Lib.hid (And.intro hR hcc)
  clear h hf hN ht hw1 hu1 hud hc1 d1 g1 hR hm hcc
  go_enter Tryz.func43, Tryz.ntmps43
  go_upto_region 3 with fail
  rw [← HW.out.1, ← HW.out.2]
  refine wp_region_held_drew (S := fun X => X.rangeAt m 0 [.int .i64 hi, .int .i64 lo, .int .i64 ba]) (by kernel_rfl) (by (simp only [World.rangeAt_drew]); exact r1) (fun hHeld => ?_)
  refine Wl.l 0 (fun w h => h) hut hsi hHeld ?_
  refine Wl.i [1] (Wl.t hHeld (Wl.o ?_))
  refine Wl.r 2 (fun K hK => ?_)
  go_simp
  refine HS.out.mono ?_
  rintro e w2 ⟨rfl, hb2⟩
  have hu2 : Upd (fun _ => False) w1.drew w2 := Upd.of_below hb2
  have r2 := hu2.range (show w1.drew.rangeAt m 0 _ by rw [World.rangeAt_drew]; exact r1) (fun h => h)
  have HC := Lib.hid (wb_check hi lo ba (n.sl : Int) w2)
  rw [← HR.out.2] at HC
  have H2 := Lib.hid (And.intro (HH.out.1.new hu2) (And.intro (HH.out.2.1.trans (HH.out.1.didNew hu2)) (hu2.blockv HH.out.2.2.1)))
  clear hb2 hu2
  refine hK.out _ _ (r2) (fun hH1 => ?_)
  clear hK K
  refine Wl.i [3] (Wl.t hH1 (Wl.o ?_))
  refine Wl.r 4 (fun K hK => ?_)
  go_simp
  refine HC.out.mono ?_
  rintro e w3 ⟨rfl, hb3⟩
  have hu3 : Upd (fun _ => False) w2 w3 := Upd.of_below hb3
  have r3 := hu3.range r2 (fun h => h)
  have H3 := Lib.hid (And.intro (H2.out.1.new hu3) (And.intro (H2.out.2.1.trans (H2.out.1.didNew hu3)) (hu3.blockv H2.out.2.2)))
  clear hb3 hu3
  refine hK.out _ _ (r3) (fun hH2 => ?_)
  clear hK K
  refine Wl.r 5 (fun K hK => ?_)
  go_simp
  refine hK.out _ _ (hH2) (fun hH3 => ?_)
  clear hK K
  refine Wl.d ?_
  clear hHeld hH1 hH2 hH3 r1 r2 r3 HS HC hfs hut hsi
  by_cases hc0 : cc = 0
  rotate_left
  · have q0 : (cc == 0) = false := by simpa using hc0
    have hr := HR.out.1
    rw [if_pos hc0] at hr
    have HF := Lib.hid hr
    clear hr hc0
    go_wp2
    go_ret2
    rw [HF.out]
    exact ⟨rfl, own, H3.out.1, H3.out.2.1⟩
  subst hc0
  have hrp : rightP hi lo ba n.sl := by
    have := HR.out.2
    unfold chkP at this
    split at this
    · assumption
    · cases this
  have hr := HR.out.1
  rw [if_neg (fun e => e rfl)] at hr
  have HR2 := Lib.hid hr
  have HP := Lib.hid hrp
  clear hr hrp
  have HDt := Lib.hid (wb_dirty H3.out.1)
  go_wp2_with fail
  refine HDt.out.mono ?_
  rintro e w4 ⟨v, rfl, hs4, hf4, hb4⟩
  have hu4 : Upd (fun _ => False) w3 w4 := Upd.of_below hb4
  have h4 := H3.out.1.new hu4
  have g4 := hu4.blockv H3.out.2.2
  have k0 := cell_of_block g4 0
  have k1 := cell_of_block g4 1
  have k2 := cell_of_block g4 2
  simp at k0 k1 k2
  rw [List.length_map] at hs4
  obtain ⟨av, cv, rfl⟩ := hs4.rd.nil_iff
  have HSt := Lib.hid (wb_step h4 HH.out.2.2.2.1 HH.out.2.2.2.2.1 HH.out.2.2.2.2.2 (min (((dirtL a.ps).length : Int) - lo) ba))
  have H4 := Lib.hid (And.intro h4 (H3.out.2.1.trans (H3.out.1.didNew hu4)))
  have hdl := dirtL_len a.ps
  rw [hbl.out.2.2] at hdl
  obtain ⟨b1, b2, -⟩ := hbl.out
  generalize (dirtL a.ps).length = len at *
  clear hs4 hf4 hb4 hu4 h4 g4 HDt
  by_cases hle : (len : Int) ≤ hi
  · have q0 : decide ((len : Int) ≤ hi) = true := by simpa using hle
    have hr := HR2.out
    rw [if_pos hle] at hr
    have HF := Lib.hid hr
    clear hr hle
    go_wp2
    go_ret2
    rw [HF.out]
    exact ⟨rfl, own, H4.out.1, H4.out.2⟩
  · have q0 : decide ((len : Int) ≤ hi) = false := by simpa using hle
    have hr := HR2.out
    rw [if_neg hle] at hr
    rw [← hr] at HSt
    obtain ⟨p1, p2, p3, p4, p5⟩ := HP.out
    have q1 : IntKind.i64.wrap ((len : Int) - lo) = (len : Int) - lo := IntWalk.i64_in _ (by omega)
    have HX := Lib.hid hle
    clear hr hle p1 p2 p3 p4 p5 hdl b1 b2
    rcases Int.lt_trichotomy ((len : Int) - lo) ba with hmn | hmn | hmn
    · rw [Int.min_eq_left (Int.le_of_lt hmn)] at HSt
      go_wp2_with fail
      refine HSt.out.mono ?_
      rintro e w5 ⟨rfl, own5, h5, d5⟩
      have H5 := Lib.hid (And.intro h5 (H4.out.2.trans d5))
      clear h5 d5 k0 k1 k2 q1 HSt
      go_wp2
      go_ret2
      exact ⟨rfl, own5, H5.out.1, H5.out.2⟩
    · subst hmn
      rw [Int.min_self] at HSt
      go_wp2_with fail
      refine HSt.out.mono ?_
      rintro e w5 ⟨rfl, own5, h5, d5⟩
      have H5 := Lib.hid (And.intro h5 (H4.out.2.trans d5))
      clear h5 d5 k0 k1 k2 q1 HSt
      go_wp2
      go_ret2
      exact ⟨rfl, own5, H5.out.1, H5.out.2⟩
    · rw [Int.min_eq_right (Int.le_of_lt hmn)] at HSt
      go_wp2_with fail
      refine HSt.out.mono ?_
      rintro e w5 ⟨rfl, own5, h5, d5⟩
      have H5 := Lib.hid (And.intro h5 (H4.out.2.trans d5))
      clear h5 d5 k0 k1 k2 q1 HSt
      go_wp2
      go_ret2
      exact ⟨rfl, own5, H5.out.1, H5.out.2⟩
end
end Go.Proofs.YtnadilfobmgebaaGreatDoor
