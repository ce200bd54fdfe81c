/- cache.New of no entries. A cache that is made of two new devices (lavabolaw14.Made). A cache behind writes: its numbers are bounded; index, slots and clock go together. -/
import Derived.Test.YtfhfbpmlnjdfoaaGreatDoorG24
import Derived.Test.YtfhfbpmlnjdfoaaGreatDoorG20
namespace Go.Proofs.YtfhfbpmlnjdfoaaGreatDoor
open Go Go.RowKit
def ca0 (n : CaN) (ssd back wh sm : Nat) : List Value :=
  n.C ++ (layC n.sl n.jo n.pa n.lo ++ [ptr ssd, ptr back, .int .i64 (wh : Int), .pointer none, .pointer none, .pointer none, .pointer none, .pointer none, .map (some sm)])
theorem wpList_build_ca {ops : Array Oper} {rest : List Oper} {op : Oper} {a : Act} {w : World} {Q : Exit → Act → World → Prop} (hgd : op.guard = none) (p q r s t u : Operand) (ho : op.op = .build 172 #[(0, p), (1, q), (2, r), (3, s), (4, t), (10, u)])
    (n : CaN) (ssd back wh sm : Nat) (hp : a.eval p = .agg n.C.toArray) (hq : a.eval q = .agg (layC n.sl n.jo n.pa n.lo).toArray) (hr : a.eval r = ptr ssd) (hs : a.eval s = ptr back) (ht : a.eval t = .int .i64 (wh : Int)) (hu : a.eval u = .map (some sm)) (L : Array Value) (hL : L = (ca0 n ssd back wh sm).toArray)
    (h : wpList Tryz.prog ops Q rest (a.put op.dst (.agg L)) w) : wpList Tryz.prog ops Q (op :: rest) a w := by
  have hrun : (Instr.build 172 #[(0, .agg n.C.toArray), (1, .agg (layC n.sl n.jo n.pa n.lo).toArray), (2, ptr ssd), (3, ptr back), (4, .int .i64 (wh : Int)), (10, .map (some sm))]).run Tryz.prog w = .ok (.agg L) w := by
    rw [hL]; kernel_rfl
  refine wpList_plain hgd fun K' hK' => ?_
  unfold Oper.wp
  simp only [execOp, ho, List.map_toArray, List.map_cons, List.map_nil, hp, hq, hr, hs, ht, hu, Sem.run_bind, hrun, Result.andThen_ok]
  exact hK' _ _ h
theorem CaN.C_one (n : CaN) : ∀ v ∈ n.C, v.oneCell' = true := by
  intro v hv
  simp only [CaN.C, List.mem_cons, List.not_mem_nil, or_false] at hv
  rcases hv with rfl | rfl | rfl | rfl | rfl | rfl | rfl <;> rfl
theorem layC_mem (sl jo pa lo : Nat) : ∀ v ∈ layC sl jo pa lo, v.oneCell' = true := by
  intro v hv
  simp only [List.mem_cons, List.not_mem_nil, or_false] at hv
  rcases hv with rfl | rfl | rfl | rfl | rfl | rfl | rfl <;> rfl
def caS0 (n : CaN) (wh seq : Nat) (dF : List Bk) (dO : List (Nat × Bk)) (dP : List Int) (bF : List Bk) (bO : List (Nat × Bk)) (bP : List Int) : CaS :=
  ⟨wh, dF, dO, dP, bF, bO, bP, seq, seq + 1, [], 0, List.replicate n.bl (-1, false), List.replicate n.sl 0, List.replicate n.sl anyA, 0, [], fun _ => false, [], 0, fun _ => none⟩
def NewOut (own0 : Nat → Nat) (w : World) (ssd back : Nat) (n : CaN) (a : CaS) (e : Ending) (w' : World) : Prop :=
  ∃ c p own', e = .returned (.tuple #[ptr c, .int .i64 0]) ∧ p.ssd = ssd ∧ p.back = back ∧ CaAt own' w' c n p a ∧ Did own0 own' w w'
theorem Mk.ca {own0 own : Nat → Nat} {w0 w : World} {c bs bl ssd back sm bjr bix bss blg bck : Nat} {us ul : Array Value} {n : CaN} {wh seq : Nat} {dF bF : List Bk} {dO bO : List (Nat × Bk)} {dP bP : List Int}
    (h : Mk own0 w0 own w c ((((((ca0 n ssd back wh sm).set 17 (ptr bjr)).set 18 (ptr bix)).set 19 (ptr bss)).set 20 (ptr blg)).set 21 (ptr bck)) bs bl us ul
      [(8, fun S w => Ck S w bck 0 n.sl n.sl [] (fun _ => false) []), (7, fun S w => Lg S w blg n.bl (List.replicate n.sl (fun _ => false))), (6, fun S w => Ss S w bss (List.replicate n.sl 0)), (5, fun S w => Ix S w bix 0 (List.replicate n.bl (-1, false)) n.sl),
        (4, fun S w => Jn S w bjr ssd (1 + 2 * n.pa) n.jo seq (seq + 1) []), (9, fun S w => Mp S w sm 0 (fun _ => none)), (3, fun S w => Dv S w back bF bO bP), (2, fun S w => Dv S w ssd dF dO dP)])
    (hok : n.Ok) (fl : dF.length = n.size) (gl : bF.length = n.bl) (hwh : wh ≤ 1) :
    CaAt own w c n ⟨ssd, back, bjr, bix, bss, blg, bck, sm⟩ { caS0 n wh seq dF dO dP bF bO bP with G := List.replicate n.sl (fun _ => false) } where
  str := h.str
  oc := h.oc
  ok := hok
  ssd := h.part (t := 2) (R := fun S w => Dv S w ssd dF dO dP) (by simp)
  back := h.part (t := 3) (R := fun S w => Dv S w back bF bO bP) (by simp)
  jr := h.part (t := 4) (R := fun S w => Jn S w bjr ssd (1 + 2 * n.pa) n.jo seq (seq + 1) []) (by simp)
  ix := h.part (t := 5) (R := fun S w => Ix S w bix 0 (List.replicate n.bl (-1, false)) n.sl) (by simp)
  ss := h.part (t := 6) (R := fun S w => Ss S w bss (List.replicate n.sl 0)) (by simp)
  lg := h.part (t := 7) (R := fun S w => Lg S w blg n.bl (List.replicate n.sl (fun _ => false))) (by simp)
  ck := h.part (t := 8) (R := fun S w => Ck S w bck 0 n.sl n.sl [] (fun _ => false) []) (by simp)
  sm := h.part (t := 9) (R := fun S w => Mp S w sm 0 (fun _ => none)) (by simp)
  far := h.far
  nib := h.nib
  tur := h.tur
  on := h.on
  ot := h.ot
  fl := fl
  gl := gl
  pl := by simp [caS0]
  sl := by simp [caS0]
  Gl := by simp
  wh := hwh
set_option maxRecDepth 100000 in
set_option maxHeartbeats 2000000 in
theorem cnewL {own0 : Nat → Nat} {w : World} {ssd back : Nat} {n : CaN} {dF bF : List Bk} {dO bO : List (Nat × Bk)} {dP bP : List Int} (h2 : Dv (fun j => own0 j = 2) w ssd dF dO dP) (h3 : Dv (fun j => own0 j = 3) w back bF bO bP)
    (far : ∀ j, w.heap.size ≤ j → own0 j = 0) (nib : Nib w) (tur : Tur w) (on : own0 0 = 0) (ot : own0 1 = 0) (hok : n.Ok) (fl : dF.length = n.size) (gl : bF.length = n.bl) (wh seq : Nat) (hwh : wh ≤ 1) (hseq : seq < 1099511627776)
    (ao : Option Addr) (ln lc : Nat) (a' : CaS) (hload : ∀ (own : Nat → Nat) (W : World) (c : Nat) (p : CaP), Below w.heap.size w W → CaAt own W c n p { caS0 n wh seq dF dO dP bF bO bP with G := List.replicate n.sl (fun _ => false) } → Calls Tryz.prog 136 #[ptr c, .slice ao ln lc] W (CaOut own W c n p a' (.int .i64 0))) :
    Calls Tryz.prog 74 #[.agg n.C.toArray, ptr ssd, ptr back, .int .i64 (wh : Int), .int .i64 (seq : Int), .slice ao ln lc] w (NewOut own0 w ssd back n a') := by
  have HLd := Lib.hid hload
  clear hload
  obtain ⟨U, hU⟩ : ∃ U, U = n.C := ⟨_, rfl⟩
  obtain ⟨V, hV⟩ : ∃ V, V = layC n.sl n.jo n.pa n.lo := ⟨_, rfl⟩
  obtain ⟨w1, hw1⟩ : ∃ w1, w1 = w.alloc (.cells U.toArray 40) := ⟨_, rfl⟩
  have hg1 : w1.heap[w.heap.size]? = some (.cells U.toArray 40) := by rw [hw1]; exact heap_alloc_last w _ rfl
  have hu1 : Upd (fun _ => False) w w1 := by rw [hw1]; exact (Upd.refl _ w).alloc _
  have hrU : w1.rangeAt w.heap.size 0 U := range_of_block hg1
  have hsU : (Tryz.prog.info? 40).map (·.size) = some U.length := by rw [hU]; exact infoSup
  have HPl : Hid (Calls Tryz.prog 14 #[.agg U.toArray] w1 fun e w' => e = .returned (.tuple #[.agg V.toArray, .int .i64 0]) ∧ Below w1.heap.size w1 w') := by
    show Calls _ _ _ _ _
    rw [hU, hV]
    obtain ⟨b1, b2, s1, s2, j1, j2, l1, l2, a1, a2, p1, p2, z⟩ := hok
    exact plan_ok n.id n.bl n.sl n.jo n.pa n.lo n.ba b1 b2 s1 s2 j1 j2 l1 l2 a1 a2 p1 p2 z w1
  rw [← hU]
  have H := Lib.hid (And.intro h2 (And.intro h3 (And.intro far (And.intro nib (And.intro tur (And.intro on (And.intro ot (And.intro hok (And.intro fl (And.intro gl (And.intro hU (And.intro hV (And.intro hg1 hu1)))))))))))))
  rw [hw1] at hrU
  have HW1 := Lib.hid hw1
  have HU := Lib.hid (And.intro hrU hsU)
  clear h2 h3 far nib tur on ot hok fl gl hU hV hg1 hu1 hrU hsU hw1
  go_enter Tryz.func74, Tryz.ntmps74
  go_wp2_with (first
    | (refine wpList_load_mid rfl _ _ rfl _ _ rfl _ _ HU.out.1 Tryz.underlying40 rfl HU.out.2 ?_)
    | fail)
  rw [← HW1.out]
  refine HPl.out.mono ?_
  rintro e w2 ⟨rfl, hb2⟩
  obtain ⟨h2, h3, far, nib, tur, on, ot, hok, fl, gl, hU, hV, hg1, hu1⟩ := H.out
  obtain ⟨w3, hw3⟩ : ∃ w3, w3 = w2.alloc (.cells V.toArray 43) := ⟨_, rfl⟩
  have hu2 : Upd (fun _ => False) w1 w2 := Upd.of_below hb2
  have hu3 : Upd (fun _ => False) w2 w3 := by rw [hw3]; exact (Upd.refl _ w2).alloc _
  have hg3 : w3.heap[w2.heap.size]? = some (.cells V.toArray 43) := by rw [hw3]; exact heap_alloc_last w2 _ rfl
  have hg13 := (hu2.trans hu3).blockv hg1
  have hU3 := (hu1.trans hu2).trans hu3
  have hVl : V.length = 7 := by rw [hV]; rfl
  have hV1 : ∀ v ∈ V, v.oneCell' = true := by rw [hV]; exact layC_mem _ _ _ _
  have hsV : Hid ((Tryz.prog.info? 43).map (·.size) = some V.length) := by show _ = _; rw [hVl]; exact infoLay
  have h23 := (Dv.thing _ _ _ _).new h2 hU3
  have h33 := (Dv.thing _ _ _ _).new h3 hU3
  have v6 : w3.cell? ⟨w2.heap.size, 6, none⟩ = some (.int .i64 (n.size : Int)) := by
    rw [cell_of_block hg3, hV]; simp [layC, CaN.size]
  have u1 : w3.cell? ⟨w.heap.size, 1, none⟩ = some (.int .i64 (n.bl : Int)) := by
    rw [cell_of_block hg13, hU]; simp [CaN.C]
  have hS2 : ∀ k, Calls Tryz.prog 47 #[ptr ssd] (w3.drewN k) fun e w' => e = .returned (.int .i64 (n.size : Int)) ∧ w' = w3.drewN k := fun k => by
    have := dsize ((Dv.thing _ _ _ _).new h23 ((Upd.refl (fun _ => False) w3).drewN k))
    rw [fl] at this
    exact this
  have hS3 : ∀ k, Calls Tryz.prog 47 #[ptr back] (w3.drewN k) fun e w' => e = .returned (.int .i64 (n.bl : Int)) ∧ w' = w3.drewN k := fun k => by
    have := dsize ((Dv.thing _ _ _ _).new h33 ((Upd.refl (fun _ => False) w3).drewN k))
    rw [gl] at this
    exact this
  have H3 := Lib.hid (And.intro hU3 (And.intro hg3 (And.intro hg13 (And.intro h23 h33))))
  have HV := Lib.hid (And.intro hVl (And.intro hV1 (And.intro hS2 hS3)))
  clear h2 h3 far nib tur on ot hok fl gl hU hV hg1 hu1 hb2 hu2 hu3 hg3 hg13 hU3 hVl hV1 h23 h33 hS2 hS3
  have HW3 := Lib.hid hw3
  clear hw3
  have HV6 := Lib.hid (And.intro v6 u1)
  clear v6 u1
  go_wp2_with (first
    | (refine wpList_store_new rfl _ _ _ rfl _ _ _ rfl rfl (by rw [HV.out.1]; rfl) hsV.out HV.out.2.1 ?_)
    | fail)
  rw [← HW3.out]
  obtain ⟨v6, u1⟩ := HV6.out
  go_quiet ((go_at_call 47; (first | with_reducible exact Calls.quiet_of_same (HV.out.2.2.1 _) | with_reducible exact Calls.quiet_of_same (HV.out.2.2.2 _))))
  clear v6 u1
  obtain ⟨h2, h3, far, nib, tur, on, ot, hok, fl, gl, hU, hV, hg1, hu1⟩ := H.out
  obtain ⟨hU3, hg3, hg13, h23, h33⟩ := H3.out
  have hud : Upd (fun _ => False) w3 (w3.drewN nq) := (Upd.refl _ w3).drewN nq
  have hU4 := hU3.trans hud
  have hg34 := hud.blockv hg3
  have hg14 := hud.blockv hg13
  generalize w3.drewN nq = w4 at *
  obtain ⟨L, hL⟩ : ∃ L, L = ca0 n ssd back wh w4.heap.size := ⟨_, rfl⟩
  obtain ⟨ownA, MA⟩ := Mk.start L hU4 h2 h3 far nib tur on ot hg14 hg34
  have rU := range_of_block hg14
  have rV := range_of_block hg34
  have hm1 : Upd (fun _ => False) w4 (w4.alloc (.map #[] 0)) := (Upd.refl _ w4).alloc _
  have HL := Lib.hid (And.intro hL MA)
  have HR := Lib.hid (And.intro rU rV)
  have HO := Lib.hid hok
  have FL := Lib.hid fl
  have GL := Lib.hid gl
  have HUV := Lib.hid (And.intro hU hV)
  have hmm := @run_makeMap Tryz.prog
  clear h2 h3 far nib tur on ot hok fl gl hU hV hg1 hu1 hU3 hg3 hg13 h23 h33 hud hU4 hg34 hg14 rU rV hm1 MA hL
  rcases (show wh = 0 ∨ wh = 1 by omega) with rfl | rfl
  all_goals
    go_upto_region 11 with (first
      | (refine wpList_load_mid rfl _ _ rfl _ _ rfl _ _ HR.out.1 Tryz.underlying40 rfl HU.out.2 ?_)
      | (refine wpList_load_mid rfl _ _ rfl _ _ rfl _ _ HR.out.2 Tryz.underlying43 rfl hsV.out ?_)
      | (refine wpList_build_ca rfl _ _ _ _ _ _ rfl n ssd back _ w4.heap.size (by show Value.agg U.toArray = _; rw [HUV.out.1]) (by show Value.agg V.toArray = _; rw [HUV.out.2]) (by rfl) (by rfl) (by rfl) (by rfl) L.toArray (by rw [HL.out.1]) ?_)
      | fail)
    have HL5 := Lib.hid (lt_of_block HL.out.2.str)
    obtain ⟨c, hc⟩ : ∃ c, c = w4.heap.size + 1 := ⟨_, rfl⟩
    rw [← hc] at HL ⊢
    have M0 := HL.out.2
    have hL0 := HL.out.1
    generalize (w4.alloc (.map #[] 0)).alloc (.cells L.toArray 172) = W0 at *
    generalize hsm : w4.heap.size = sm at *
    clear hc HL HL5 hmm hsm HR
    subst hL0
    obtain ⟨b1, b2, s1, s2, j1, j2, l1, l2, a1, a2, p1, p2, z⟩ := HO.out
    have hq := cell_of_block M0.sb
    have hv := cell_of_block M0.lb
    rw [HUV.out.1] at hq
    rw [HUV.out.2] at hv
    have q1 : W0.cell? ⟨w.heap.size, 1, none⟩ = some (.int .i64 (n.bl : Int)) := hq 1
    have q2 : W0.cell? ⟨w.heap.size, 2, none⟩ = some (.int .i64 (n.sl : Int)) := hq 2
    have q3 : W0.cell? ⟨w.heap.size, 3, none⟩ = some (.int .i64 (n.jo : Int)) := hq 3
    have v1 : W0.cell? ⟨w2.heap.size, 1, none⟩ = some (.int .i64 (1 + 2 * (n.pa : Int))) := hv 1
    have HN := Lib.hid (jnew_any (S := fun j => W0.heap.size ≤ j) (M0.part (t := 2) (R := fun S w => Dv S w ssd dF dO dP) (by simp)) (fun _ h => h) (1 + 2 * n.pa) n.jo seq (by omega) j2 (by rw [FL.out]; unfold CaN.size; omega) hseq)
    have HM := Lib.hid M0
    clear hq hv M0
    go_wp2_with fail
    try rw [show (1 + 2 * (n.pa : Int)) = ((1 + 2 * n.pa : Nat) : Int) by simp]
    refine HN.out.mono ?_
    rintro e Wx ⟨bjr, rfl, hX, -, hb⟩
    have MX := HM.out.add 4 (by simp) (Jn.thing bjr ssd (1 + 2 * n.pa) n.jo seq (seq + 1) []) hb hX
    have k17 := MX.cell 17
    have g17 := frozen_of_block MX.str 17
    have HX := Lib.hid MX
    clear hX hb MX q1 q2 q3 v1
    go_upto_region 14 with fail
    have M1 := HX.out.set 17 (ptr bjr)
    generalize Wx.setCell ⟨c, 17, none⟩ (ptr bjr) = W1 at *
    clear HN HX k17 g17
    have hq := cell_of_block M1.sb
    have hv := cell_of_block M1.lb
    rw [HUV.out.1] at hq
    rw [HUV.out.2] at hv
    have q1 : W1.cell? ⟨w.heap.size, 1, none⟩ = some (.int .i64 (n.bl : Int)) := hq 1
    have q2 : W1.cell? ⟨w.heap.size, 2, none⟩ = some (.int .i64 (n.sl : Int)) := hq 2
    have q3 : W1.cell? ⟨w.heap.size, 3, none⟩ = some (.int .i64 (n.jo : Int)) := hq 3
    have v1 : W1.cell? ⟨w2.heap.size, 1, none⟩ = some (.int .i64 (1 + 2 * (n.pa : Int))) := hv 1
    have HN := Lib.hid (inew_ix n.bl n.sl W1 b1 b2 s1 s2)
    have HM := Lib.hid M1
    clear hq hv M1
    go_wp2_with fail
    try rw [show (1 + 2 * (n.pa : Int)) = ((1 + 2 * n.pa : Nat) : Int) by simp]
    refine HN.out.mono ?_
    rintro e Wx ⟨bix, rfl, hX, hb⟩
    have MX := HM.out.add 5 (by simp) (Ix.thing bix 0 (List.replicate n.bl (-1, false)) n.sl) hb hX
    have k18 := MX.cell 18
    have g18 := frozen_of_block MX.str 18
    have HX := Lib.hid MX
    clear hX hb MX q1 q2 q3 v1
    go_upto_region 17 with fail
    have M2 := HX.out.set 18 (ptr bix)
    generalize Wx.setCell ⟨c, 18, none⟩ (ptr bix) = W2 at *
    clear HN HX k18 g18
    have hq := cell_of_block M2.sb
    have hv := cell_of_block M2.lb
    rw [HUV.out.1] at hq
    rw [HUV.out.2] at hv
    have q1 : W2.cell? ⟨w.heap.size, 1, none⟩ = some (.int .i64 (n.bl : Int)) := hq 1
    have q2 : W2.cell? ⟨w.heap.size, 2, none⟩ = some (.int .i64 (n.sl : Int)) := hq 2
    have q3 : W2.cell? ⟨w.heap.size, 3, none⟩ = some (.int .i64 (n.jo : Int)) := hq 3
    have v1 : W2.cell? ⟨w2.heap.size, 1, none⟩ = some (.int .i64 (1 + 2 * (n.pa : Int))) := hv 1
    have HN := Lib.hid (snew_ss n.sl W2 s1 s2)
    have HM := Lib.hid M2
    clear hq hv M2
    go_wp2_with fail
    try rw [show (1 + 2 * (n.pa : Int)) = ((1 + 2 * n.pa : Nat) : Int) by simp]
    refine HN.out.mono ?_
    rintro e Wx ⟨bss, rfl, hX, hb⟩
    have MX := HM.out.add 6 (by simp) (Ss.thing bss (List.replicate n.sl 0)) hb hX
    have k19 := MX.cell 19
    have g19 := frozen_of_block MX.str 19
    have HX := Lib.hid MX
    clear hX hb MX q1 q2 q3 v1
    go_upto_region 20 with fail
    have M3 := HX.out.set 19 (ptr bss)
    generalize Wx.setCell ⟨c, 19, none⟩ (ptr bss) = W3 at *
    clear HN HX k19 g19
    have hq := cell_of_block M3.sb
    have hv := cell_of_block M3.lb
    rw [HUV.out.1] at hq
    rw [HUV.out.2] at hv
    have q1 : W3.cell? ⟨w.heap.size, 1, none⟩ = some (.int .i64 (n.bl : Int)) := hq 1
    have q2 : W3.cell? ⟨w.heap.size, 2, none⟩ = some (.int .i64 (n.sl : Int)) := hq 2
    have q3 : W3.cell? ⟨w.heap.size, 3, none⟩ = some (.int .i64 (n.jo : Int)) := hq 3
    have v1 : W3.cell? ⟨w2.heap.size, 1, none⟩ = some (.int .i64 (1 + 2 * (n.pa : Int))) := hv 1
    have HN := Lib.hid (lnew_ok (S := fun j => W3.heap.size ≤ j) n.sl n.bl W3 (fun _ h => h) s1 s2 b1 b2)
    have HM := Lib.hid M3
    clear hq hv M3
    go_wp2_with fail
    try rw [show (1 + 2 * (n.pa : Int)) = ((1 + 2 * n.pa : Nat) : Int) by simp]
    refine HN.out.mono ?_
    rintro e Wx ⟨blg, rfl, hX, hb, -⟩
    have MX := HM.out.add 7 (by simp) (Lg.thing blg n.bl (List.replicate n.sl (fun _ => false))) hb hX
    have k20 := MX.cell 20
    have g20 := frozen_of_block MX.str 20
    have HX := Lib.hid MX
    clear hX hb MX q1 q2 q3 v1
    go_upto_region 23 with fail
    have M4 := HX.out.set 20 (ptr blg)
    generalize Wx.setCell ⟨c, 20, none⟩ (ptr blg) = W4 at *
    clear HN HX k20 g20
    have hq := cell_of_block M4.sb
    have hv := cell_of_block M4.lb
    rw [HUV.out.1] at hq
    rw [HUV.out.2] at hv
    have q1 : W4.cell? ⟨w.heap.size, 1, none⟩ = some (.int .i64 (n.bl : Int)) := hq 1
    have q2 : W4.cell? ⟨w.heap.size, 2, none⟩ = some (.int .i64 (n.sl : Int)) := hq 2
    have q3 : W4.cell? ⟨w.heap.size, 3, none⟩ = some (.int .i64 (n.jo : Int)) := hq 3
    have v1 : W4.cell? ⟨w2.heap.size, 1, none⟩ = some (.int .i64 (1 + 2 * (n.pa : Int))) := hv 1
    have HN := Lib.hid (knew_ck (S := fun j => W4.heap.size ≤ j) n.sl n.sl W4 s1 s2 s2 (fun _ h => h))
    have HM := Lib.hid M4
    clear hq hv M4
    go_wp2_with fail
    try rw [show (1 + 2 * (n.pa : Int)) = ((1 + 2 * n.pa : Nat) : Int) by simp]
    refine HN.out.mono ?_
    rintro e Wx ⟨bck, rfl, hX, -, hb⟩
    have MX := HM.out.add 8 (by simp) (Ck.thing bck 0 n.sl n.sl [] (fun _ => false) []) hb hX
    have k21 := MX.cell 21
    have g21 := frozen_of_block MX.str 21
    have HX := Lib.hid MX
    clear hX hb MX q1 q2 q3 v1
    go_upto_region 26 with fail
    have M5 := HX.out.set 21 (ptr bck)
    generalize Wx.setCell ⟨c, 21, none⟩ (ptr bck) = W5 at *
    clear HN HX k21 g21
    have hca := M5.ca HO.out FL.out GL.out hwh
    have hd : Did own0 _ w W5 := ⟨(Upd.of_below M5.bel), M5.old, M5.new, M5.far⟩
    have HL := Lib.hid (HLd.out _ _ _ _ M5.bel hca)
    have HD := Lib.hid hd
    clear hca hd M5
    go_wp2_with fail
    refine HL.out.mono ?_
    rintro e w9 ⟨rfl, own9, hca9, hd9⟩
    have HE := Lib.hid (And.intro hca9 (HD.out.trans hd9))
    clear hca9 hd9
    go_wp2
    go_ret2
    exact ⟨c, ⟨ssd, back, bjr, bix, bss, blg, bck, sm⟩, own9, rfl, rfl, rfl, HE.out.1, HE.out.2⟩
theorem cnew {own0 : Nat → Nat} {w : World} {ssd back : Nat} {n : CaN} {dF bF : List Bk} {dO bO : List (Nat × Bk)} {dP bP : List Int} (h2 : Dv (fun j => own0 j = 2) w ssd dF dO dP) (h3 : Dv (fun j => own0 j = 3) w back bF bO bP)
    (far : ∀ j, w.heap.size ≤ j → own0 j = 0) (nib : Nib w) (tur : Tur w) (on : own0 0 = 0) (ot : own0 1 = 0) (hok : n.Ok) (fl : dF.length = n.size) (gl : bF.length = n.bl) (wh seq : Nat) (hwh : wh ≤ 1) (hseq : seq < 1099511627776) :
    Calls Tryz.prog 74 #[.agg n.C.toArray, ptr ssd, ptr back, .int .i64 (wh : Int), .int .i64 (seq : Int), .slice none 0 0] w (NewOut own0 w ssd back n (caS0 n wh seq dF dO dP bF bO bP)) :=
  cnewL h2 h3 far nib tur on ot hok fl gl wh seq hwh hseq none 0 0 _ (fun _ _ _ _ _ h => load_nil h)
def madeS (n : CaN) : CaS := ckpS n (caS0 n 1 0 (List.replicate n.size zB) [] [] (List.replicate n.bl zB) [] []) []
theorem wrsR_go (F : List Bk) (L : List (Nat × Bk)) : ∀ O, wrsR F L O [] = ⟨F, O ++ L, [], 0⟩ := by
  induction L with
  | nil => intro O; simp [wrsR]
  | cons x L ih =>
    intro O
    have e : writeR F O [] x.1 x.2 = ⟨F, O ++ [(x.1, x.2)], [], 0⟩ := rfl
    rw [wrsR_yes (by rw [e]), e, ih]
    simp
theorem visTo_none {qs : List (Int × Bool)} {fr : Nat} (h : ∀ k : Nat, qs[k]?.getD (-1, false) = (-1, false)) : ∀ m, visTo qs fr m = []
  | 0 => rfl
  | m + 1 => by simp only [visTo, visAt]; rw [visTo_none h m, if_pos (h m)]; rfl
theorem ckpt_new {n : CaN} {a : CaS} (hb : a.bP = []) (hd : a.dP = []) (hps : a.ps = List.replicate n.bl (-1, false)) : a.ckpt n = (ckpS n a [], 0) := by
  have he : a.ents n = [] := by
    unfold CaS.ents
    rw [show vis (spanL a.ps 0 n.bl) 0 = [] from visTo_none (fun k => by
      rw [hps]
      unfold spanL
      rw [List.drop_zero, List.getElem?_take]
      split
      · rw [List.getElem?_replicate]; split <;> rfl
      · rfl) _]
    rfl
  obtain ⟨wh, dF, dO, dP, bF, bO, bP, cov, next, W, iN, ps, st, G, kN, K, A, H, mN, sums⟩ := a
  simp only at hb hd
  subst hb hd
  have hs : ∀ (F : List Bk) (L : List (Nat × Bk)), saveR F [] [] L = ⟨flushF F L, [], [], 0⟩ := fun F L => by
    unfold saveR
    rw [wrsR_go]
    rfl
  have h1 : ((CaS.mk wh dF dO [] bF bO [] cov next W iN ps st G kN K A H mN sums).fb.fd.svR n) = ⟨flushF (flushF dF dO) (ckO (1 + (1 - wh) * n.pa) n.pa (pagesB (next - 1) [])), [], [], 0⟩ := by
    show saveR (flushF dF dO) [] [] (ckO (1 + (1 - wh) * n.pa) n.pa (pagesB (next - 1) ((CaS.mk wh dF dO [] bF bO [] cov next W iN ps st G kN K A H mN sums).ents n))) = _
    rw [he, hs]
  unfold CaS.ckpt
  rw [if_neg (by exact fun h => h rfl), if_neg (by exact fun h => h rfl), if_neg (by rw [h1]; exact fun h => h rfl)]
  unfold CaS.ckd
  rw [h1]
  rfl
def MadeOut (w : World) (n : CaN) (e : Ending) (w' : World) : Prop :=
  ∃ c p own, e = .returned (.tuple #[ptr c, ptr p.ssd, ptr p.back]) ∧ CaAt own w' c n p (madeS n) ∧ Below w.heap.size w w' ∧ ∀ j, j < w.heap.size → own j = 0
set_option maxRecDepth 100000 in
set_option maxHeartbeats 1000000 in
theorem made_ok (n : CaN) (hok : n.Ok) (w : World) (nib : Nib w) (tur : Tur w) : Calls Tryz.prog 30 #[.agg n.C.toArray] w (MadeOut w n) := by
  obtain ⟨U, hU⟩ : ∃ U, U = n.C := ⟨_, rfl⟩
  obtain ⟨V, hV⟩ : ∃ V, V = layC n.sl n.jo n.pa n.lo := ⟨_, rfl⟩
  obtain ⟨w1, hw1⟩ : ∃ w1, w1 = w.alloc (.cells U.toArray 40) := ⟨_, rfl⟩
  have hg1 : w1.heap[w.heap.size]? = some (.cells U.toArray 40) := by rw [hw1]; exact heap_alloc_last w _ rfl
  have hu1 : Upd (fun _ => False) w w1 := by rw [hw1]; exact (Upd.refl _ w).alloc _
  have hrU : w1.rangeAt w.heap.size 0 U := range_of_block hg1
  have hsU : (Tryz.prog.info? 40).map (·.size) = some U.length := by rw [hU]; exact infoSup
  have HPl : Hid (Calls Tryz.prog 14 #[.agg U.toArray] w1 fun e w' => e = .returned (.tuple #[.agg V.toArray, .int .i64 0]) ∧ Below w1.heap.size w1 w') := by
    show Calls _ _ _ _ _
    rw [hU, hV]
    obtain ⟨b1, b2, s1, s2, j1, j2, l1, l2, a1, a2, p1, p2, z⟩ := hok
    exact plan_ok n.id n.bl n.sl n.jo n.pa n.lo n.ba b1 b2 s1 s2 j1 j2 l1 l2 a1 a2 p1 p2 z w1
  rw [← hU]
  have H := Lib.hid (And.intro nib (And.intro tur (And.intro hok (And.intro hU (And.intro hV (And.intro hg1 hu1))))))
  rw [hw1] at hrU
  have HW1 := Lib.hid hw1
  have HU := Lib.hid (And.intro hrU hsU)
  clear nib tur hok hU hV hg1 hu1 hrU hsU hw1
  go_enter Tryz.func30, Tryz.ntmps30
  go_wp2_with (first
    | (refine wpList_load_mid rfl _ _ rfl _ _ rfl _ _ HU.out.1 Tryz.underlying40 rfl HU.out.2 ?_)
    | fail)
  rw [← HW1.out]
  refine HPl.out.mono ?_
  rintro e w2 ⟨rfl, hb2⟩
  obtain ⟨nib, tur, hok, hU, hV, hg1, hu1⟩ := H.out
  obtain ⟨w3, hw3⟩ : ∃ w3, w3 = w2.alloc (.cells V.toArray 43) := ⟨_, rfl⟩
  have hu2 : Upd (fun _ => False) w1 w2 := Upd.of_below hb2
  have hu3 : Upd (fun _ => False) w2 w3 := by rw [hw3]; exact (Upd.refl _ w2).alloc _
  have hg3 : w3.heap[w2.heap.size]? = some (.cells V.toArray 43) := by rw [hw3]; exact heap_alloc_last w2 _ rfl
  have hg13 := (hu2.trans hu3).blockv hg1
  have hU3 := (hu1.trans hu2).trans hu3
  have hVl : V.length = 7 := by rw [hV]; rfl
  have hV1 : ∀ v ∈ V, v.oneCell' = true := by rw [hV]; exact layC_mem _ _ _ _
  have hsV : Hid ((Tryz.prog.info? 43).map (·.size) = some V.length) := by show _ = _; rw [hVl]; exact infoLay
  have v6 : w3.cell? ⟨w2.heap.size, 6, none⟩ = some (.int .i64 (n.size : Int)) := by
    rw [cell_of_block hg3, hV]; simp [layC, CaN.size]
  have u1 : w3.cell? ⟨w.heap.size, 1, none⟩ = some (.int .i64 (n.bl : Int)) := by
    rw [cell_of_block hg13, hU]; simp [CaN.C]
  have hz4 : n.size ≤ 4096 := hok.z
  have hz1 : 1 ≤ n.size := by unfold CaN.size; omega
  have hD1 := dnew_ok n.size hz1 hz4 w3
  have H3 := Lib.hid (And.intro hU3 (And.intro hg13 (And.intro v6 u1)))
  have HV := Lib.hid (And.intro hVl (And.intro hV1 hD1))
  have HW3 := Lib.hid hw3
  rw [hw3] at v6
  have hlt := lt_of_block hg13
  clear nib tur hok hU hV hg1 hu1 hb2 hu2 hu3 hg3 hg13 hU3 hVl hV1 u1 hD1 hw3
  go_wp2_with (first
    | (refine wpList_store_new rfl _ _ _ rfl _ _ _ rfl rfl (by rw [HV.out.1]; rfl) hsV.out HV.out.2.1 ?_)
    | fail)
  rw [← HW3.out]
  refine HV.out.2.2.mono ?_
  rintro e w4 ⟨b1, rfl, hX1, hlo1, hb4⟩
  have hu4 : Upd (fun _ => False) w3 w4 := Upd.of_below hb4
  have u1 := hu4.cellv H3.out.2.2.2 (fun h => h)
  obtain ⟨nib, tur, hok, hU, hV, hg1, hu1⟩ := H.out
  have hD2 := Lib.hid (dnew_ok n.bl hok.b1 hok.b2 w4)
  have H4 := Lib.hid (And.intro hX1 hu4)
  clear hX1 hb4 hu4 nib tur hok hU hV hg1 hu1 v6 hlt
  go_wp2_with fail
  refine hD2.out.mono ?_
  rintro e w5 ⟨b2, rfl, hX2, hlo2, hb5⟩
  have hu5 : Upd (fun _ => False) w4 w5 := Upd.of_below hb5
  obtain ⟨nib, tur, hok, hU, hV, hg1, hu1⟩ := H.out
  have hU5 := (H3.out.1.trans H4.out.2).trans hu5
  obtain ⟨own, hown⟩ : ∃ own : Nat → Nat, own = fun j => if w3.heap.size ≤ j ∧ j < w4.heap.size then 2 else if w4.heap.size ≤ j ∧ j < w5.heap.size then 3 else 0 := ⟨_, rfl⟩
  have hs3 := H3.out.1.size
  have hs4 := H4.out.2.size
  have hs5 := hu5.size
  have h2 : Dv (fun j => own j = 2) w5 b1 (List.replicate n.size zB) [] [] := by
    have a1 : Dv (fun j => w3.heap.size ≤ j ∧ j < w4.heap.size) w4 b1 (List.replicate n.size zB) [] [] := H4.out.1.out (fun j h1 h2 => ⟨h2, h1⟩)
    exact ((a1.new hu5).out (fun j _ hj => by rw [hown]; simp [hj.1, hj.2]))
  have h3 : Dv (fun j => own j = 3) w5 b2 (List.replicate n.bl zB) [] [] := hX2.out (fun j h1 h2 => by
    rw [hown]; have h2' : w4.heap.size ≤ j := h2; simp only []; rw [if_neg (by omega), if_pos ⟨h2', h1⟩])
  have hnl := nib.lt
  have htl := tur.lt
  have hC := cnew (n := n) h2 h3 (fun j hj => by rw [hown]; simp only []; rw [if_neg (by omega), if_neg (by omega)]) (nib.keep hU5 (fun h => h)) (tur.keep hU5 (fun h => h))
    (by rw [hown]; simp only []; rw [if_neg (by omega), if_neg (by omega)]) (by rw [hown]; simp only []; rw [if_neg (by omega), if_neg (by omega)]) hok (by simp) (by simp) 1 0 (by omega) (by omega)
  rw [← hU] at hC
  have hg15 := (H4.out.2.trans hu5).blockv H3.out.2.1
  have rU := range_of_block hg15
  have HC := Lib.hid hC
  have HO := Lib.hid (And.intro hown (And.intro hU5 rU))
  clear hX2 hb5 hu5 nib tur hok hU hV hg1 hu1 hU5 hown h2 h3 hC hg15 rU u1 hnl htl
  go_wp2_with (first
    | (refine wpList_load_mid rfl _ _ rfl _ _ rfl _ _ HO.out.2.2 Tryz.underlying40 rfl HU.out.2 ?_)
    | fail)
  refine HC.out.mono ?_
  rintro e w6 ⟨c, p, own6, rfl, hp1, hp2, hca, hdid⟩
  subst hp1 hp2
  have HK := Lib.hid (ca_ckpt hca (fun k v h => by cases h) (by simp [caS0]))
  rw [ckpt_new rfl rfl rfl] at HK
  have H6 := Lib.hid hdid
  clear hca hdid
  go_wp2_with fail
  refine HK.out.mono ?_
  rintro e w7 ⟨rfl, own7, hca7, hd7⟩
  have H7 := Lib.hid (And.intro hca7 (H6.out.trans hd7))
  clear hca7 hd7
  go_wp2
  obtain ⟨hown, hU5, -⟩ := HO.out
  obtain ⟨h7, d7⟩ := H7.out
  have h0 : ∀ j, j < w.heap.size → own j = 0 := fun j hj => by rw [hown]; simp only []; rw [if_neg (by omega), if_neg (by omega)]
  refine bodyPost_ret (v := .tuple #[ptr c, ptr p.ssd, ptr p.back]) (by simp [results, Tryz.results30, go_sem]) rfl ⟨c, p, own7, rfl, h7, ?_, fun j hj => ?_⟩
  · exact Upd.below (hU5.new d7.upd (fun i hi hs => hs.1 (h0 i hi)))
  · rw [d7.old j (by omega), h0 j hj]
section
variable {n : CaN} {a : CaS} {N : Nat}
theorem CaS.takeR_next (n : CaN) (a : CaS) (s : Int) : a.next ≤ (a.takeR n s).1.next := by
  have h := (a.roomed_next n).1
  unfold CaS.takeR
  split
  · show a.next ≤ (a.roomed n).1.next; omega
  · show a.next ≤ (a.roomed n).1.next; omega
theorem CaS.take2_next (n : CaN) (a : CaS) : a.next ≤ (a.take2 n).1.next := by
  have h := (a.committed_next n).1
  unfold CaS.take2
  split
  · exact Nat.le_refl _
  · unfold CaS.take3
    split
    · show a.next ≤ (a.committed n).1.next; omega
    split
    · show a.next ≤ (a.committed n).1.next; omega
    · exact Nat.le_trans (by show a.next ≤ (a.committed n).1.next; omega) ((a.committed n).1.al.takeR_next n _)
theorem CaS.takes_next (n : CaN) (a : CaS) : a.next ≤ (a.takes n).1.next := by
  have h := CaS.evicts_next n 1 0 a.al
  unfold CaS.takes
  split
  · exact a.al.takeR_next n _
  · unfold CaS.take1
    split
    · split
      · exact h
      · exact Nat.le_trans h ((CaS.evicts n 1 0 a.al).1.take2_next n)
    · exact a.al.take2_next n
theorem CaS.Fit.backed (h : a.Fit N) (hg : a.Jg n) (h1 : 1 ≤ a.next) (hj : 4 ≤ n.jo) (k : Nat) (x : Bk) : (a.backed n k x).1.Fit (N + 3 * n.pa + n.jo + 6) := by
  have ht := h.takes' hg h1 hj
  have hn := a.takes_next n
  unfold CaS.backed
  split
  · exact ht.mono (by omega)
  split
  · exact (ht.bypassed (by omega) k x).mono (by omega)
  · have hf := ht.filled (n := n) (a.takes n).2.1.toNat (k : Int) x
    have hfn := (filled_next n (a.takes n).1 (a.takes n).2.1.toNat (k : Int) x).1
    unfold CaS.backS
    split
    · exact hf.mono (by omega)
    · exact (hf.putted (by omega) (k : Int) _ (crcC x) true (by have := crcC_lt x; omega)).mono (by omega)
theorem CaS.Fit.thru (h : a.Fit N) (hg : a.Jg n) (h1 : 1 ≤ a.next) (hj : 4 ≤ n.jo) (k : Nat) (x : Bk) : (a.thru n k x).1.Fit (N + 3 * n.pa + n.jo + 6) := by
  have ht := h.takes' hg h1 hj
  have hn := a.takes_next n
  unfold CaS.thru
  split
  · exact ht.mono (by omega)
  split
  · exact (ht.bypassed (by omega) k x).mono (by omega)
  · have hb := ht.bw k x
    unfold CaS.thruS
    split
    · exact (hb.turned _).mono (by omega)
    · have hf := hb.filled (n := n) (a.takes n).2.1.toNat (k : Int) x
      have hfn := (filled_next n ((a.takes n).1.bdev (writeR (a.takes n).1.bF (a.takes n).1.bO (a.takes n).1.bP k x)) (a.takes n).2.1.toNat (k : Int) x).1
      replace hfn : _ = (a.takes n).1.next := hfn
      unfold CaS.thruF
      split
      · exact (hf.byp (by rw [hfn]; omega) k).mono (by omega)
      · exact (hf.putted (by rw [hfn]; omega) (k : Int) _ (crcC x) false (by have := crcC_lt x; omega)).mono (by omega)
theorem CaS.Fit.wrote (h : a.Fit N) (hg : a.Jg n) (h1 : 1 ≤ a.next) (hj : 4 ≤ n.jo) (k : Int) (x : Bk) (md : Int) : (a.wrote n k x md).1.Fit (N + 3 * n.pa + n.jo + 6) := by
  unfold CaS.wrote
  split
  · exact h.mono (by omega)
  split
  · exact h.mono (by omega)
  split
  · exact h.backed hg h1 hj _ x
  split
  · exact h.thru hg h1 hj _ x
  · exact (h.bypassed h1 _ x).mono (by omega)
theorem CaS.Fit.gone (h : a.Fit N) (h1 : 1 ≤ a.next) (k : Int) : (a.gone n k).1.Fit (N + n.pa + 2) := by
  unfold CaS.gone
  split
  · exact h.mono (by omega)
  · exact h.bypassed h1 _ _
theorem CaS.Tie.backS {s k : Nat} (h : a.Tie n (some s)) (hk : k < n.bl) (x : Bk) : (a.backS n k s x).1.Tie n none := by
  unfold CaS.backS
  rcases CaS.Tie.filled h (k : Int) x with ⟨hc, ht⟩ | ⟨hc, ht⟩
  · rw [if_neg (by omega)]
    exact (CaS.Tie.put ht hk (crcC x) true).2.2
  · rw [if_pos hc]
    exact ht
theorem CaS.Tie.thruS {s k : Nat} (h : a.Tie n (some s)) (hk : k < n.bl) (x : Bk) : (a.thruS n k s x).1.Tie n none := by
  unfold CaS.thruS
  split
  · exact (TieL.shut h (.inl rfl)).2
  · unfold CaS.thruF
    have h' : (a.bdev (writeR a.bF a.bO a.bP k x)).Tie n (some s) := h
    rcases CaS.Tie.filled h' (k : Int) x with ⟨hc, ht⟩ | ⟨hc, ht⟩
    · rw [if_neg (by omega)]
      exact (CaS.Tie.put ht hk (crcC x) false).2.2
    · rw [if_pos hc]
      exact CaS.Tie.byp ht k
theorem CaS.Tie.backed (h : a.Tie n none) (h1 : 1 ≤ a.next) (hj : 4 ≤ n.jo) {k : Nat} (hk : k < n.bl) (x : Bk) : (a.backed n k x).1.Tie n none := by
  have ht := CaS.Tie.takes h h1 hj
  unfold CaS.backed
  rcases ht with ⟨h2, h3, -, s, h4, h5⟩ | ⟨h2, h5⟩
  · rw [if_neg (by omega), if_neg (by rw [h2]; decide), h4, Int.toNat_natCast]
    exact CaS.Tie.backS h5 hk x
  · split
    · exact h5
    · exact CaS.Tie.bypassed h5 k x
theorem CaS.Tie.thru (h : a.Tie n none) (h1 : 1 ≤ a.next) (hj : 4 ≤ n.jo) {k : Nat} (hk : k < n.bl) (x : Bk) : (a.thru n k x).1.Tie n none := by
  have ht := CaS.Tie.takes h h1 hj
  unfold CaS.thru
  rcases ht with ⟨h2, h3, -, s, h4, h5⟩ | ⟨h2, h5⟩
  · rw [if_neg (by omega), if_neg (by rw [h2]; decide), h4, Int.toNat_natCast]
    exact CaS.Tie.thruS h5 hk x
  · split
    · exact h5
    · exact CaS.Tie.bypassed h5 k x
theorem CaS.Tie.wrote (h : a.Tie n none) (h1 : 1 ≤ a.next) (hj : 4 ≤ n.jo) (k : Int) (x : Bk) (md : Int) : (a.wrote n k x md).1.Tie n none := by
  unfold CaS.wrote
  split
  · exact h
  next hk =>
  split
  · exact h
  split
  · exact CaS.Tie.backed h h1 hj (by omega) x
  split
  · exact CaS.Tie.thru h h1 hj (by omega) x
  · exact CaS.Tie.bypassed h _ x
theorem CaS.Tie.gone (h : a.Tie n none) (k : Int) : (a.gone n k).1.Tie n none := by
  unfold CaS.gone
  split
  · exact h
  · exact CaS.Tie.bypassed h _ _
end
theorem made_tie (n : CaN) : (madeS n).Tie n none := by
  have e : (madeS n).st = freeTo (List.replicate n.sl 0) (pos (List.replicate n.sl 0) 3) := rfl
  have h0 : ∀ k, plc (List.replicate n.bl (-1, false)) k = (-1, false) := fun k => by
    rw [plc, List.getD_eq_getElem?_getD, List.getElem?_replicate]
    split <;> rfl
  have hs : ∀ s, (List.replicate n.sl (0 : Int)).getD s 0 = 0 := fun s => by
    rw [List.getD_eq_getElem?_getD, List.getElem?_replicate]
    split <;> rfl
  have : TieL n.bl n.sl (List.replicate n.bl (-1, false)) (List.replicate n.sl 0) [] none := {
    hpl := List.length_replicate
    hsl := List.length_replicate
    good := Good.start _ _
    live := fun k _ hn => absurd (h0 k) hn
    used := fun s _ h2 => by rw [hs] at h2; cases h2
    opn := fun s _ => by rw [hs]; simp
    rng := fun s _ => by rw [hs]; decide
    olt := fun s h => by cases h
    kk := fun k => by
      rw [getC_iff]
      constructor
      · intro h; cases h
      · rintro ⟨m, -, -, hn⟩; exact absurd (h0 m) hn
    kd := List.nodup_nil }
  exact this.freed
theorem made_fit (n : CaN) : (madeS n).Fit 3 where
  sm := fun k v h => by cases h
  w1 := fun q h => by cases h
  nx := by show (1 : Nat) ≤ 3; decide
  iN := by show (0 : Nat) ≤ 3; decide
  kN := by show (0 : Nat) ≤ 3; decide
  mN := by show (0 : Nat) ≤ 3; decide
  dO := by show (0 : Nat) ≤ 3; decide
  bO := by show (0 : Nat) ≤ 3; decide
end Go.Proofs.YtfhfbpmlnjdfoaaGreatDoor
