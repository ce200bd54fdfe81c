/- cache.New of no entries. Superblocks: the superblock of numbers; a superblock's numbers. attach.Format of two devices that fit, where nothing is planned. -/
import Derived.Test.YtfhfbpmlnjdfoaaGreatDoorA29
import Derived.Test.YtfhfbpmlnjdfoaaGreatDoorA28
import Derived.Test.YtfhfbpmlnjdfoaaGreatDoorA18
namespace Go.Proofs.YtfhfbpmlnjdfoaaGreatDoor
open Go Go.RowKit
def ca0 (n : CaN) (ssd back wh sm : Nat) : List Value :=
  n.C ++ (layC n.sl n.jo n.pa n.lo ++ [ptr ssd, ptr back, .int .i64 (wh : Int), .pointer none, .pointer none, .pointer none, .pointer none, .pointer none, .map (some sm)])
theorem wpList_build_ca {ops : Array Oper} {rest : List Oper} {op : Oper} {a : Act} {w : World} {Q : Exit → Act → World → Prop} (hgd : op.guard = none) (p q r s t u : Operand) (ho : op.op = .build 172 #[(0, p), (1, q), (2, r), (3, s), (4, t), (10, u)])
    (n : CaN) (ssd back wh sm : Nat) (hp : a.eval p = .agg n.C.toArray) (hq : a.eval q = .agg (layC n.sl n.jo n.pa n.lo).toArray) (hr : a.eval r = ptr ssd) (hs : a.eval s = ptr back) (ht : a.eval t = .int .i64 (wh : Int)) (hu : a.eval u = .map (some sm)) (L : Array Value) (hL : L = (ca0 n ssd back wh sm).toArray)
    (h : wpList Tryz.prog ops Q rest (a.put op.dst (.agg L)) w) : wpList Tryz.prog ops Q (op :: rest) a w := by
  have hrun : (Instr.build 172 #[(0, .agg n.C.toArray), (1, .agg (layC n.sl n.jo n.pa n.lo).toArray), (2, ptr ssd), (3, ptr back), (4, .int .i64 (wh : Int)), (10, .map (some sm))]).run Tryz.prog w = .ok (.agg L) w := by
    rw [hL]; kernel_rfl
  refine wpList_plain hgd fun K' hK' => ?_
  unfold Oper.wp
  simp only [execOp, ho, List.map_toArray, List.map_cons, List.map_nil, hp, hq, hr, hs, ht, hu, Sem.run_bind, hrun, Result.andThen_ok]
  exact hK' _ _ h
theorem CaN.C_one (n : CaN) : ∀ v ∈ n.C, v.oneCell' = true := by
  intro v hv
  simp only [CaN.C, List.mem_cons, List.not_mem_nil, or_false] at hv
  rcases hv with rfl | rfl | rfl | rfl | rfl | rfl | rfl <;> rfl
theorem layC_mem (sl jo pa lo : Nat) : ∀ v ∈ layC sl jo pa lo, v.oneCell' = true := by
  intro v hv
  simp only [List.mem_cons, List.not_mem_nil, or_false] at hv
  rcases hv with rfl | rfl | rfl | rfl | rfl | rfl | rfl <;> rfl
def caS0 (n : CaN) (wh seq : Nat) (dF : List Bk) (dO : List (Nat × Bk)) (dP : List Int) (bF : List Bk) (bO : List (Nat × Bk)) (bP : List Int) : CaS :=
  ⟨wh, dF, dO, dP, bF, bO, bP, seq, seq + 1, [], 0, List.replicate n.bl (-1, false), List.replicate n.sl 0, List.replicate n.sl anyA, 0, [], fun _ => false, [], 0, fun _ => none⟩
def NewOut (own0 : Nat → Nat) (w : World) (ssd back : Nat) (n : CaN) (a : CaS) (e : Ending) (w' : World) : Prop :=
  ∃ c p own', e = .returned (.tuple #[ptr c, .int .i64 0]) ∧ p.ssd = ssd ∧ p.back = back ∧ CaAt own' w' c n p a ∧ Did own0 own' w w'
theorem Mk.ca {own0 own : Nat → Nat} {w0 w : World} {c bs bl ssd back sm bjr bix bss blg bck : Nat} {us ul : Array Value} {n : CaN} {wh seq : Nat} {dF bF : List Bk} {dO bO : List (Nat × Bk)} {dP bP : List Int}
    (h : Mk own0 w0 own w c ((((((ca0 n ssd back wh sm).set 17 (ptr bjr)).set 18 (ptr bix)).set 19 (ptr bss)).set 20 (ptr blg)).set 21 (ptr bck)) bs bl us ul
      [(8, fun S w => Ck S w bck 0 n.sl n.sl [] (fun _ => false) []), (7, fun S w => Lg S w blg n.bl (List.replicate n.sl (fun _ => false))), (6, fun S w => Ss S w bss (List.replicate n.sl 0)), (5, fun S w => Ix S w bix 0 (List.replicate n.bl (-1, false)) n.sl),
        (4, fun S w => Jn S w bjr ssd (1 + 2 * n.pa) n.jo seq (seq + 1) []), (9, fun S w => Mp S w sm 0 (fun _ => none)), (3, fun S w => Dv S w back bF bO bP), (2, fun S w => Dv S w ssd dF dO dP)])
    (hok : n.Ok) (fl : dF.length = n.size) (gl : bF.length = n.bl) (hwh : wh ≤ 1) :
    CaAt own w c n ⟨ssd, back, bjr, bix, bss, blg, bck, sm⟩ { caS0 n wh seq dF dO dP bF bO bP with G := List.replicate n.sl (fun _ => false) } where
  str := h.str
  oc := h.oc
  ok := hok
  ssd := h.part (t := 2) (R := fun S w => Dv S w ssd dF dO dP) (by simp)
  back := h.part (t := 3) (R := fun S w => Dv S w back bF bO bP) (by simp)
  jr := h.part (t := 4) (R := fun S w => Jn S w bjr ssd (1 + 2 * n.pa) n.jo seq (seq + 1) []) (by simp)
  ix := h.part (t := 5) (R := fun S w => Ix S w bix 0 (List.replicate n.bl (-1, false)) n.sl) (by simp)
  ss := h.part (t := 6) (R := fun S w => Ss S w bss (List.replicate n.sl 0)) (by simp)
  lg := h.part (t := 7) (R := fun S w => Lg S w blg n.bl (List.replicate n.sl (fun _ => false))) (by simp)
  ck := h.part (t := 8) (R := fun S w => Ck S w bck 0 n.sl n.sl [] (fun _ => false) []) (by simp)
  sm := h.part (t := 9) (R := fun S w => Mp S w sm 0 (fun _ => none)) (by simp)
  far := h.far
  nib := h.nib
  tur := h.tur
  on := h.on
  ot := h.ot
  fl := fl
  gl := gl
  pl := by simp [caS0]
  sl := by simp [caS0]
  Gl := by simp
  wh := hwh
set_option maxRecDepth 100000 in
set_option maxHeartbeats 2000000 in
theorem cnewL {own0 : Nat → Nat} {w : World} {ssd back : Nat} {n : CaN} {dF bF : List Bk} {dO bO : List (Nat × Bk)} {dP bP : List Int} (h2 : Dv (fun j => own0 j = 2) w ssd dF dO dP) (h3 : Dv (fun j => own0 j = 3) w back bF bO bP)
    (far : ∀ j, w.heap.size ≤ j → own0 j = 0) (nib : Nib w) (tur : Tur w) (on : own0 0 = 0) (ot : own0 1 = 0) (hok : n.Ok) (fl : dF.length = n.size) (gl : bF.length = n.bl) (wh seq : Nat) (hwh : wh ≤ 1) (hseq : seq < 1099511627776)
    (ao : Option Addr) (ln lc : Nat) (a' : CaS) (hload : ∀ (own : Nat → Nat) (W : World) (c : Nat) (p : CaP), Below w.heap.size w W → CaAt own W c n p { caS0 n wh seq dF dO dP bF bO bP with G := List.replicate n.sl (fun _ => false) } → Calls Tryz.prog 136 #[ptr c, .slice ao ln lc] W (CaOut own W c n p a' (.int .i64 0))) :
    Calls Tryz.prog 74 #[.agg n.C.toArray, ptr ssd, ptr back, .int .i64 (wh : Int), .int .i64 (seq : Int), .slice ao ln lc] w (NewOut own0 w ssd back n a') := by
  have HLd := Lib.hid hload
  clear hload
  obtain ⟨U, hU⟩ : ∃ U, U = n.C := ⟨_, rfl⟩
  obtain ⟨V, hV⟩ : ∃ V, V = layC n.sl n.jo n.pa n.lo := ⟨_, rfl⟩
  obtain ⟨w1, hw1⟩ : ∃ w1, w1 = w.alloc (.cells U.toArray 40) := ⟨_, rfl⟩
  have hg1 : w1.heap[w.heap.size]? = some (.cells U.toArray 40) := by rw [hw1]; exact heap_alloc_last w _ rfl
  have hu1 : Upd (fun _ => False) w w1 := by rw [hw1]; exact (Upd.refl _ w).alloc _
  have hrU : w1.rangeAt w.heap.size 0 U := range_of_block hg1
  have hsU : (Tryz.prog.info? 40).map (·.size) = some U.length := by rw [hU]; exact infoSup
  have HPl : Hid (Calls Tryz.prog 14 #[.agg U.toArray] w1 fun e w' => e = .returned (.tuple #[.agg V.toArray, .int .i64 0]) ∧ Below w1.heap.size w1 w') := by
    show Calls _ _ _ _ _
    rw [hU, hV]
    obtain ⟨b1, b2, s1, s2, j1, j2, l1, l2, a1, a2, p1, p2, z⟩ := hok
    exact plan_ok n.id n.bl n.sl n.jo n.pa n.lo n.ba b1 b2 s1 s2 j1 j2 l1 l2 a1 a2 p1 p2 z w1
  rw [← hU]
  have H := Lib.hid (And.intro h2 (And.intro h3 (And.intro far (And.intro nib (And.intro tur (And.intro on (And.intro ot (And.intro hok (And.intro fl (And.intro gl (And.intro hU (And.intro hV (And.intro hg1 hu1)))))))))))))
  rw [hw1] at hrU
  have HW1 := Lib.hid hw1
  have HU := Lib.hid (And.intro hrU hsU)
  clear h2 h3 far nib tur on ot hok fl gl hU hV hg1 hu1 hrU hsU hw1
  go_enter Tryz.func74, Tryz.ntmps74
  go_wp2_with (first
    | (refine wpList_load_mid rfl _ _ rfl _ _ rfl _ _ HU.out.1 Tryz.underlying40 rfl HU.out.2 ?_)
    | fail)
  rw [← HW1.out]
  refine HPl.out.mono ?_
  rintro e w2 ⟨rfl, hb2⟩
  obtain ⟨h2, h3, far, nib, tur, on, ot, hok, fl, gl, hU, hV, hg1, hu1⟩ := H.out
  obtain ⟨w3, hw3⟩ : ∃ w3, w3 = w2.alloc (.cells V.toArray 43) := ⟨_, rfl⟩
  have hu2 : Upd (fun _ => False) w1 w2 := Upd.of_below hb2
  have hu3 : Upd (fun _ => False) w2 w3 := by rw [hw3]; exact (Upd.refl _ w2).alloc _
  have hg3 : w3.heap[w2.heap.size]? = some (.cells V.toArray 43) := by rw [hw3]; exact heap_alloc_last w2 _ rfl
  have hg13 := (hu2.trans hu3).blockv hg1
  have hU3 := (hu1.trans hu2).trans hu3
  have hVl : V.length = 7 := by rw [hV]; rfl
  have hV1 : ∀ v ∈ V, v.oneCell' = true := by rw [hV]; exact layC_mem _ _ _ _
  have hsV : Hid ((Tryz.prog.info? 43).map (·.size) = some V.length) := by show _ = _; rw [hVl]; exact infoLay
  have h23 := (Dv.thing _ _ _ _).new h2 hU3
  have h33 := (Dv.thing _ _ _ _).new h3 hU3
  have v6 : w3.cell? ⟨w2.heap.size, 6, none⟩ = some (.int .i64 (n.size : Int)) := by
    rw [cell_of_block hg3, hV]; simp [layC, CaN.size]
  have u1 : w3.cell? ⟨w.heap.size, 1, none⟩ = some (.int .i64 (n.bl : Int)) := by
    rw [cell_of_block hg13, hU]; simp [CaN.C]
  have hS2 : ∀ k, Calls Tryz.prog 47 #[ptr ssd] (w3.drewN k) fun e w' => e = .returned (.int .i64 (n.size : Int)) ∧ w' = w3.drewN k := fun k => by
    have := dsize ((Dv.thing _ _ _ _).new h23 ((Upd.refl (fun _ => False) w3).drewN k))
    rw [fl] at this
    exact this
  have hS3 : ∀ k, Calls Tryz.prog 47 #[ptr back] (w3.drewN k) fun e w' => e = .returned (.int .i64 (n.bl : Int)) ∧ w' = w3.drewN k := fun k => by
    have := dsize ((Dv.thing _ _ _ _).new h33 ((Upd.refl (fun _ => False) w3).drewN k))
    rw [gl] at this
    exact this
  have H3 := Lib.hid (And.intro hU3 (And.intro hg3 (And.intro hg13 (And.intro h23 h33))))
  have HV := Lib.hid (And.intro hVl (And.intro hV1 (And.intro hS2 hS3)))
  clear h2 h3 far nib tur on ot hok fl gl hU hV hg1 hu1 hb2 hu2 hu3 hg3 hg13 hU3 hVl hV1 h23 h33 hS2 hS3
  have HW3 := Lib.hid hw3
  clear hw3
  have HV6 := Lib.hid (And.intro v6 u1)
  clear v6 u1
  go_wp2_with (first
    | (refine wpList_store_new rfl _ _ _ rfl _ _ _ rfl rfl (by rw [HV.out.1]; rfl) hsV.out HV.out.2.1 ?_)
    | fail)
  rw [← HW3.out]
  obtain ⟨v6, u1⟩ := HV6.out
  go_quiet ((go_at_call 47; (first | with_reducible exact Calls.quiet_of_same (HV.out.2.2.1 _) | with_reducible exact Calls.quiet_of_same (HV.out.2.2.2 _))))
  clear v6 u1
  obtain ⟨h2, h3, far, nib, tur, on, ot, hok, fl, gl, hU, hV, hg1, hu1⟩ := H.out
  obtain ⟨hU3, hg3, hg13, h23, h33⟩ := H3.out
  have hud : Upd (fun _ => False) w3 (w3.drewN nq) := (Upd.refl _ w3).drewN nq
  have hU4 := hU3.trans hud
  have hg34 := hud.blockv hg3
  have hg14 := hud.blockv hg13
  generalize w3.drewN nq = w4 at *
  obtain ⟨L, hL⟩ : ∃ L, L = ca0 n ssd back wh w4.heap.size := ⟨_, rfl⟩
  obtain ⟨ownA, MA⟩ := Mk.start L hU4 h2 h3 far nib tur on ot hg14 hg34
  have rU := range_of_block hg14
  have rV := range_of_block hg34
  have hm1 : Upd (fun _ => False) w4 (w4.alloc (.map #[] 0)) := (Upd.refl _ w4).alloc _
  have HL := Lib.hid (And.intro hL MA)
  have HR := Lib.hid (And.intro rU rV)
  have HO := Lib.hid hok
  have FL := Lib.hid fl
  have GL := Lib.hid gl
  have HUV := Lib.hid (And.intro hU hV)
  have hmm := @run_makeMap Tryz.prog
  clear h2 h3 far nib tur on ot hok fl gl hU hV hg1 hu1 hU3 hg3 hg13 h23 h33 hud hU4 hg34 hg14 rU rV hm1 MA hL
  rcases (show wh = 0 ∨ wh = 1 by omega) with rfl | rfl
  all_goals
    go_upto_region 11 with (first
      | (refine wpList_load_mid rfl _ _ rfl _ _ rfl _ _ HR.out.1 Tryz.underlying40 rfl HU.out.2 ?_)
      | (refine wpList_load_mid rfl _ _ rfl _ _ rfl _ _ HR.out.2 Tryz.underlying43 rfl hsV.out ?_)
      | (refine wpList_build_ca rfl _ _ _ _ _ _ rfl n ssd back _ w4.heap.size (by show Value.agg U.toArray = _; rw [HUV.out.1]) (by show Value.agg V.toArray = _; rw [HUV.out.2]) (by rfl) (by rfl) (by rfl) (by rfl) L.toArray (by rw [HL.out.1]) ?_)
      | fail)
    have HL5 := Lib.hid (lt_of_block HL.out.2.str)
    obtain ⟨c, hc⟩ : ∃ c, c = w4.heap.size + 1 := ⟨_, rfl⟩
    rw [← hc] at HL ⊢
    have M0 := HL.out.2
    have hL0 := HL.out.1
    generalize (w4.alloc (.map #[] 0)).alloc (.cells L.toArray 172) = W0 at *
    generalize hsm : w4.heap.size = sm at *
    clear hc HL HL5 hmm hsm HR
    subst hL0
    obtain ⟨b1, b2, s1, s2, j1, j2, l1, l2, a1, a2, p1, p2, z⟩ := HO.out
    have hq := cell_of_block M0.sb
    have hv := cell_of_block M0.lb
    rw [HUV.out.1] at hq
    rw [HUV.out.2] at hv
    have q1 : W0.cell? ⟨w.heap.size, 1, none⟩ = some (.int .i64 (n.bl : Int)) := hq 1
    have q2 : W0.cell? ⟨w.heap.size, 2, none⟩ = some (.int .i64 (n.sl : Int)) := hq 2
    have q3 : W0.cell? ⟨w.heap.size, 3, none⟩ = some (.int .i64 (n.jo : Int)) := hq 3
    have v1 : W0.cell? ⟨w2.heap.size, 1, none⟩ = some (.int .i64 (1 + 2 * (n.pa : Int))) := hv 1
    have HN := Lib.hid (jnew_any (S := fun j => W0.heap.size ≤ j) (M0.part (t := 2) (R := fun S w => Dv S w ssd dF dO dP) (by simp)) (fun _ h => h) (1 + 2 * n.pa) n.jo seq (by omega) j2 (by rw [FL.out]; unfold CaN.size; omega) hseq)
    have HM := Lib.hid M0
    clear hq hv M0
    go_wp2_with fail
    try rw [show (1 + 2 * (n.pa : Int)) = ((1 + 2 * n.pa : Nat) : Int) by simp]
    refine HN.out.mono ?_
    rintro e Wx ⟨bjr, rfl, hX, -, hb⟩
    have MX := HM.out.add 4 (by simp) (Jn.thing bjr ssd (1 + 2 * n.pa) n.jo seq (seq + 1) []) hb hX
    have k17 := MX.cell 17
    have g17 := frozen_of_block MX.str 17
    have HX := Lib.hid MX
    clear hX hb MX q1 q2 q3 v1
    go_upto_region 14 with fail
    have M1 := HX.out.set 17 (ptr bjr)
    generalize Wx.setCell ⟨c, 17, none⟩ (ptr bjr) = W1 at *
    clear HN HX k17 g17
    have hq := cell_of_block M1.sb
    have hv := cell_of_block M1.lb
    rw [HUV.out.1] at hq
    rw [HUV.out.2] at hv
    have q1 : W1.cell? ⟨w.heap.size, 1, none⟩ = some (.int .i64 (n.bl : Int)) := hq 1
    have q2 : W1.cell? ⟨w.heap.size, 2, none⟩ = some (.int .i64 (n.sl : Int)) := hq 2
    have q3 : W1.cell? ⟨w.heap.size, 3, none⟩ = some (.int .i64 (n.jo : Int)) := hq 3
    have v1 : W1.cell? ⟨w2.heap.size, 1, none⟩ = some (.int .i64 (1 + 2 * (n.pa : Int))) := hv 1
    have HN := Lib.hid (inew_ix n.bl n.sl W1 b1 b2 s1 s2)
    have HM := Lib.hid M1
    clear hq hv M1
    go_wp2_with fail
    try rw [show (1 + 2 * (n.pa : Int)) = ((1 + 2 * n.pa : Nat) : Int) by simp]
    refine HN.out.mono ?_
    rintro e Wx ⟨bix, rfl, hX, hb⟩
    have MX := HM.out.add 5 (by simp) (Ix.thing bix 0 (List.replicate n.bl (-1, false)) n.sl) hb hX
    have k18 := MX.cell 18
    have g18 := frozen_of_block MX.str 18
    have HX := Lib.hid MX
    clear hX hb MX q1 q2 q3 v1
    go_upto_region 17 with fail
    have M2 := HX.out.set 18 (ptr bix)
    generalize Wx.setCell ⟨c, 18, none⟩ (ptr bix) = W2 at *
    clear HN HX k18 g18
    have hq := cell_of_block M2.sb
    have hv := cell_of_block M2.lb
    rw [HUV.out.1] at hq
    rw [HUV.out.2] at hv
    have q1 : W2.cell? ⟨w.heap.size, 1, none⟩ = some (.int .i64 (n.bl : Int)) := hq 1
    have q2 : W2.cell? ⟨w.heap.size, 2, none⟩ = some (.int .i64 (n.sl : Int)) := hq 2
    have q3 : W2.cell? ⟨w.heap.size, 3, none⟩ = some (.int .i64 (n.jo : Int)) := hq 3
    have v1 : W2.cell? ⟨w2.heap.size, 1, none⟩ = some (.int .i64 (1 + 2 * (n.pa : Int))) := hv 1
    have HN := Lib.hid (snew_ss n.sl W2 s1 s2)
    have HM := Lib.hid M2
    clear hq hv M2
    go_wp2_with fail
    try rw [show (1 + 2 * (n.pa : Int)) = ((1 + 2 * n.pa : Nat) : Int) by simp]
    refine HN.out.mono ?_
    rintro e Wx ⟨bss, rfl, hX, hb⟩
    have MX := HM.out.add 6 (by simp) (Ss.thing bss (List.replicate n.sl 0)) hb hX
    have k19 := MX.cell 19
    have g19 := frozen_of_block MX.str 19
    have HX := Lib.hid MX
    clear hX hb MX q1 q2 q3 v1
    go_upto_region 20 with fail
    have M3 := HX.out.set 19 (ptr bss)
    generalize Wx.setCell ⟨c, 19, none⟩ (ptr bss) = W3 at *
    clear HN HX k19 g19
    have hq := cell_of_block M3.sb
    have hv := cell_of_block M3.lb
    rw [HUV.out.1] at hq
    rw [HUV.out.2] at hv
    have q1 : W3.cell? ⟨w.heap.size, 1, none⟩ = some (.int .i64 (n.bl : Int)) := hq 1
    have q2 : W3.cell? ⟨w.heap.size, 2, none⟩ = some (.int .i64 (n.sl : Int)) := hq 2
    have q3 : W3.cell? ⟨w.heap.size, 3, none⟩ = some (.int .i64 (n.jo : Int)) := hq 3
    have v1 : W3.cell? ⟨w2.heap.size, 1, none⟩ = some (.int .i64 (1 + 2 * (n.pa : Int))) := hv 1
    have HN := Lib.hid (lnew_ok (S := fun j => W3.heap.size ≤ j) n.sl n.bl W3 (fun _ h => h) s1 s2 b1 b2)
    have HM := Lib.hid M3
    clear hq hv M3
    go_wp2_with fail
    try rw [show (1 + 2 * (n.pa : Int)) = ((1 + 2 * n.pa : Nat) : Int) by simp]
    refine HN.out.mono ?_
    rintro e Wx ⟨blg, rfl, hX, hb, -⟩
    have MX := HM.out.add 7 (by simp) (Lg.thing blg n.bl (List.replicate n.sl (fun _ => false))) hb hX
    have k20 := MX.cell 20
    have g20 := frozen_of_block MX.str 20
    have HX := Lib.hid MX
    clear hX hb MX q1 q2 q3 v1
    go_upto_region 23 with fail
    have M4 := HX.out.set 20 (ptr blg)
    generalize Wx.setCell ⟨c, 20, none⟩ (ptr blg) = W4 at *
    clear HN HX k20 g20
    have hq := cell_of_block M4.sb
    have hv := cell_of_block M4.lb
    rw [HUV.out.1] at hq
    rw [HUV.out.2] at hv
    have q1 : W4.cell? ⟨w.heap.size, 1, none⟩ = some (.int .i64 (n.bl : Int)) := hq 1
    have q2 : W4.cell? ⟨w.heap.size, 2, none⟩ = some (.int .i64 (n.sl : Int)) := hq 2
    have q3 : W4.cell? ⟨w.heap.size, 3, none⟩ = some (.int .i64 (n.jo : Int)) := hq 3
    have v1 : W4.cell? ⟨w2.heap.size, 1, none⟩ = some (.int .i64 (1 + 2 * (n.pa : Int))) := hv 1
    have HN := Lib.hid (knew_ck (S := fun j => W4.heap.size ≤ j) n.sl n.sl W4 s1 s2 s2 (fun _ h => h))
    have HM := Lib.hid M4
    clear hq hv M4
    go_wp2_with fail
    try rw [show (1 + 2 * (n.pa : Int)) = ((1 + 2 * n.pa : Nat) : Int) by simp]
    refine HN.out.mono ?_
    rintro e Wx ⟨bck, rfl, hX, -, hb⟩
    have MX := HM.out.add 8 (by simp) (Ck.thing bck 0 n.sl n.sl [] (fun _ => false) []) hb hX
    have k21 := MX.cell 21
    have g21 := frozen_of_block MX.str 21
    have HX := Lib.hid MX
    clear hX hb MX q1 q2 q3 v1
    go_upto_region 26 with fail
    have M5 := HX.out.set 21 (ptr bck)
    generalize Wx.setCell ⟨c, 21, none⟩ (ptr bck) = W5 at *
    clear HN HX k21 g21
    have hca := M5.ca HO.out FL.out GL.out hwh
    have hd : Did own0 _ w W5 := ⟨(Upd.of_below M5.bel), M5.old, M5.new, M5.far⟩
    have HL := Lib.hid (HLd.out _ _ _ _ M5.bel hca)
    have HD := Lib.hid hd
    clear hca hd M5
    go_wp2_with fail
    refine HL.out.mono ?_
    rintro e w9 ⟨rfl, own9, hca9, hd9⟩
    have HE := Lib.hid (And.intro hca9 (HD.out.trans hd9))
    clear hca9 hd9
    go_wp2
    go_ret2
    exact ⟨c, ⟨ssd, back, bjr, bix, bss, blg, bck, sm⟩, own9, rfl, rfl, rfl, HE.out.1, HE.out.2⟩
def dsS (xs : List Int) : List Value := [.int .i64 (xs.getD 0 0), .int .i64 (xs.getD 1 0), .int .i64 (xs.getD 2 0), .int .i64 (xs.getD 3 0), .int .i64 (xs.getD 4 0), .int .i64 (xs.getD 5 0), .int .i64 (xs.getD 6 0)]
theorem dsS_len (xs : List Int) : (dsS xs).length = 7 := rfl
theorem dsS_one (xs : List Int) : ∀ v ∈ dsS xs, v.oneCell' = true := by
  intro v hv
  simp only [dsS, List.mem_cons, List.not_mem_nil, or_false] at hv
  rcases hv with rfl | rfl | rfl | rfl | rfl | rfl | rfl <;> rfl
set_option maxRecDepth 100000 in
set_option maxHeartbeats 1000000 in
theorem buildS {w : World} {gl ol cl : Nat} (xs : List Int) (hxl : xs.length = 7) (hx : w.rangeAt gl ol (ints xs)) :
    Calls Tryz.prog 127 (#[.slice (some ⟨gl, ol, none⟩) 7 cl] ++ #[]) w fun e w' => e = .returned (.agg (dsS xs).toArray) ∧ Below w.heap.size w w' := by
  have x0 := cellR hx 0 (by omega)
  have x1 := cellR hx 1 (by omega)
  have x2 := cellR hx 2 (by omega)
  have x3 := cellR hx 3 (by omega)
  have x4 := cellR hx 4 (by omega)
  have x5 := cellR hx 5 (by omega)
  have x6 := cellR hx 6 (by omega)
  rw [Nat.add_zero] at x0
  have hlt : gl < w.heap.size := World.block_lt_of_cell? w _ x0
  have hds : Hid (dsS xs = [.int .i64 (xs.getD 0 0), .int .i64 (xs.getD 1 0), .int .i64 (xs.getD 2 0), .int .i64 (xs.getD 3 0), .int .i64 (xs.getD 4 0), .int .i64 (xs.getD 5 0), .int .i64 (xs.getD 6 0)]) := rfl
  generalize xs.getD 0 0 = y0 at *
  generalize xs.getD 1 0 = y1 at *
  generalize xs.getD 2 0 = y2 at *
  generalize xs.getD 3 0 = y3 at *
  generalize xs.getD 4 0 = y4 at *
  generalize xs.getD 5 0 = y5 at *
  generalize xs.getD 6 0 = y6 at *
  clear hx hxl
  go_enter Tryz.func127, Tryz.ntmps127
  go_wp2
  go_region
  go_wp2
  exact bodyPost_ret (results_mid1 rfl _ _ w.heap.size 0 [.int .i64 y0, .int .i64 y1, .int .i64 y2, .int .i64 y3, .int .i64 y4, .int .i64 y5, .int .i64 y6] _ rfl ((World.rangeAt_drew ..).2 (range_of_block (heap_alloc_last w _ rfl))) Tryz.underlying40 rfl infoThS) rfl
    ⟨by rw [hds.out], below_drewN ((Below.refl _ w).alloc (Nat.le_refl _) _) 1⟩
set_option maxRecDepth 100000 in
theorem tellS (y0 y1 y2 y3 y4 y5 y6 : Int) (w : World) : Calls Tryz.prog 125 #[.agg #[.int .i64 y0, .int .i64 y1, .int .i64 y2, .int .i64 y3, .int .i64 y4, .int .i64 y5, .int .i64 y6]] w (TellPostC w 7 [y0, y1, y2, y3, y4, y5, y6]) := by
  go_enter Tryz.func125, Tryz.ntmps125
  go_wp2
  go_ret
  exact ⟨w.heap.size + 1, 7, rfl, Nat.le_refl _, by unfold maxLen; omega, range_of_block (heap_alloc_last _ _ (by simp)), ((Below.refl _ w).alloc (Nat.le_refl _) _).alloc (by simp) _⟩
def CaN.s0 (n : CaN) : Nat := 1 + 2 * n.pa + n.jo + n.lo + n.lo + n.lo
theorem CaN.s0_size (n : CaN) : n.size = n.s0 + n.sl := rfl
def CaN.I (n : CaN) : List Int := [n.id, n.bl, n.sl, n.jo, n.pa, n.lo, n.ba]
def CaN.sec (n : CaN) : Bk := sectS n.I
theorem CaN.sec_len (n : CaN) : n.sec.length = 64 := sectS_len rfl
theorem CaN.may {n : CaN} (h : n.Ok) (hid : n.id ≤ 1099511627776) : mayS n.I = true := by
  obtain ⟨b1, b2, s1, s2, j1, j2, l1, l2, a1, a2, p1, p2, z⟩ := h
  unfold mayS withinB bndS CaN.I
  simp only [List.zip_cons_cons, List.zip_nil_right, List.all_cons, List.all_nil, inB, Bool.and_eq_true, decide_eq_true_eq, Bool.and_true]
  omega
def fmt1 (F : List Bk) (O : List (Nat × Bk)) : List Bk := flushF F (O ++ [(0, zB)])
def fmt2 (n : CaN) (F : List Bk) (O : List (Nat × Bk)) : List Bk := flushF (fmt1 F O) (zW (n.s0 - 1) ++ ckO 1 n.pa (pagesB 0 []))
def fmtF (n : CaN) (F : List Bk) (O : List (Nat × Bk)) : List Bk := flushF (fmt2 n F O) [(0, n.sec)]
theorem fmt1_len (F : List Bk) (O : List (Nat × Bk)) : (fmt1 F O).length = F.length := flushF_len _ _
theorem fmt2_len (n : CaN) (F : List Bk) (O : List (Nat × Bk)) : (fmt2 n F O).length = F.length := (flushF_len _ _).trans (fmt1_len F O)
theorem fmtF_len (n : CaN) (F : List Bk) (O : List (Nat × Bk)) : (fmtF n F O).length = F.length := (flushF_len _ _).trans (fmt2_len n F O)
def FmtOut (S : Nat → Prop) (w : World) (b : Nat) (F : List Bk) (e : Ending) (w' : World) : Prop := e = .returned (.int .i64 0) ∧ Dv S w' b F [] [] ∧ Upd S w w'
def fmtK (n : CaN) (F : List Bk) (O : List (Nat × Bk)) : Nat → List Bk × List (Nat × Bk)
  | 0 => (F, O)
  | 1 => (F, O ++ [(0, zB)])
  | 2 => (fmt1 F O, [])
  | 3 => (fmt1 F O, zW (n.s0 - 1))
  | 4 => (fmt2 n F O, [])
  | 5 => (fmt2 n F O, [(0, n.sec)])
  | _ => (fmtF n F O, [])
def fmtV (d q lb q0 b : Nat) : Array Value := #[.func (.func 57) #[] #[ptr d, ptr q0, ptr (q0 + 1)], .func (.func 46) #[ptr b] #[], .func (.func 58) #[] #[ptr lb, ptr d],
  .func (.func 59) #[] #[ptr d, ptr lb, ptr q], .func (.func 57) #[] #[ptr d, ptr (q0 + 2), ptr (q0 + 2 + 1)], .func (.func 46) #[ptr b] #[]]
set_option maxRecDepth 100000 in
theorem fmt_row {T : Nat → Prop} {w : World} {b g d q lb q0 : Nat} {n : CaN} {F : List Bk} {O : List (Nat × Bk)} (hok : n.Ok) (hd : Dv T w b F O []) (hn : ∀ j, w.heap.size ≤ j → T j) (hN : Nib w) (hNT : ¬ T 0) (hF : F.length = n.size) (hO : O.length ≤ 50000)
    (hg : w.heap[g]? = some (.cells (fmtV d q lb q0 b) 71 (0, 0)))
    (cd : w.cell? ⟨d, 0, none⟩ = some (ptr b)) (cq : w.cell? ⟨q, 4, none⟩ = some (.int .i64 (n.pa : Int))) (l0 : w.cell? ⟨lb, 0, none⟩ = some (.int .i64 1)) (l5 : w.cell? ⟨lb, 5, none⟩ = some (.int .i64 (n.s0 : Int)))
    (c0 : w.cell? ⟨q0, 0, none⟩ = some (.int .i64 0)) (r1 : w.rangeAt (q0 + 1) 0 (bkC zB)) (c2 : w.cell? ⟨q0 + 2, 0, none⟩ = some (.int .i64 0)) (r3 : w.rangeAt (q0 + 2 + 1) 0 (bkC n.sec))
    (hT : ¬ T g ∧ ¬ T d ∧ ¬ T q ∧ ¬ T lb ∧ ¬ T q0 ∧ ¬ T (q0 + 1) ∧ ¬ T (q0 + 2) ∧ ¬ T (q0 + 2 + 1)) :
    Calls Tryz.prog 61 #[.slice (some ⟨g, 0, none⟩) 6 6] w (FmtOut T w b (fmtF n F O)) := by
  obtain ⟨tg, td, tq, tl, t0, t1, t2, t3⟩ := hT
  have hz := hok.z
  have hs0 := n.s0_size
  have hs1 : 1 ≤ n.s0 := by unfold CaN.s0; omega
  have hpz : 1 + n.pa + n.pa ≤ n.size := by unfold CaN.size; omega
  have hp1 : 1 ≤ n.pa := by have := hok.p1; omega
  have hR := arow (g := g) (n := 6) (by omega)
    (fun k => [57, 46, 58, 59, 57, 46].getD k 0)
    (fun k => [#[], #[ptr b], #[], #[], #[], #[ptr b]].getD k #[])
    (fun k => [#[ptr d, ptr q0, ptr (q0 + 1)], #[], #[ptr lb, ptr d], #[ptr d, ptr lb, ptr q], #[ptr d, ptr (q0 + 2), ptr (q0 + 2 + 1)], #[]].getD k #[])
    (fun k W => Dv T W b (fmtK n F O k).1 (fmtK n F O k).2 [] ∧ Upd T w W) (fun _ _ => False)
    (fun k hk W hW => by
      have h1 := (hW.2.block g (lt_of_block hg) tg).trans hg
      rw [cell_of_block h1]
      rcases (show k = 0 ∨ k = 1 ∨ k = 2 ∨ k = 3 ∨ k = 4 ∨ k = 5 by omega) with rfl | rfl | rfl | rfl | rfl | rfl <;> rfl)
    (fun k hk args W => by rcases (show k = 0 ∨ k = 1 ∨ k = 2 ∨ k = 3 ∨ k = 4 ∨ k = 5 by omega) with rfl | rfl | rfl | rfl | rfl | rfl <;> rfl)
    (fun k hk W hW => by
      obtain ⟨hdv, hu⟩ := hW
      have hn' : ∀ j, W.heap.size ≤ j → T j := fun j hj => hn j (Nat.le_trans hu.size hj)
      have step : ∀ {r : DRes} {f : Nat} {a : Array Value}, r.cd = 0 → r.P = [] → (fmtK n F O (k + 1)).1 = r.F → (fmtK n F O (k + 1)).2 = r.O → Calls Tryz.prog f a W (Out T W b r) → Calls Tryz.prog f a W (RowOut (fun _ _ => False) (fun W => Dv T W b (fmtK n F O (k + 1)).1 (fmtK n F O (k + 1)).2 [] ∧ Upd T w W)) := by
        intro r f a h1 h2 h3 h4 h
        refine h.mono fun e W' ⟨he, hd', hu'⟩ => ⟨0, by rw [he, h1], fun _ => ⟨?_, hu.trans hu'⟩, fun h => absurd rfl h⟩
        rw [h3, h4, ← h2]
        exact hd'
      rcases (show k = 0 ∨ k = 1 ∨ k = 2 ∨ k = 3 ∨ k = 4 ∨ k = 5 by omega) with rfl | rfl | rfl | rfl | rfl | rfl
      · exact step rfl rfl rfl rfl (fmt_write hdv hn' 0 zB zB_len (hu.cellv cd td) (hu.cellv c0 t0) (hu.range r1 t1) (by have e : (fmtK n F O 0).1.length = F.length := rfl; rw [e]; omega) (by have e : (fmtK n F O 0).2.length = O.length := rfl; rw [e]; omega))
      · exact step rfl rfl rfl rfl (dflushR hdv hn')
      · have h3 : (fmtK n F O 2).1.length = F.length := fmt1_len F O
        exact step rfl rfl rfl (by show _ = [] ++ zW (n.s0 - 1); rw [List.nil_append]; rfl) (fmt_clear hdv hn' n.s0 hs1 (hu.cellv cd td) (hu.cellv l5 tl) tl td (by rw [h3]; omega) (Nat.zero_le _))
      · have h3 : (fmtK n F O 3).1.length = F.length := fmt1_len F O
        have h4 : (fmtK n F O 3).2.length = n.s0 - 1 := zW_len _
        exact step rfl rfl rfl rfl (fmt_save hdv hn' (hN.keep hu hNT) hNT n.pa hp1 (by rw [h3]; omega) (by rw [h4]; omega) (hu.cellv cd td) (hu.cellv l0 tl) (hu.cellv cq tq))
      · have h3 : (fmtK n F O 4).1.length = F.length := fmt2_len n F O
        exact step rfl rfl rfl rfl (fmt_write hdv hn' 0 n.sec n.sec_len (hu.cellv cd td) (hu.cellv c2 t2) (hu.range r3 t3) (by rw [h3]; omega) (by have e : (fmtK n F O 4).2.length = 0 := rfl; rw [e]; omega))
      · exact step rfl rfl rfl rfl (dflushR hdv hn'))
    (w := w) ⟨hd, Upd.refl _ _⟩
  refine hR.mono fun e w' ⟨c, he, h1, h2⟩ => ?_
  by_cases hc : c = 0
  · obtain ⟨hd', hu'⟩ := h1 hc
    exact ⟨by rw [he, hc], hd', hu'⟩
  · exact (h2 hc).elim
set_option maxRecDepth 100000 in
set_option maxHeartbeats 2000000 in
theorem aformat {S T : Nat → Prop} {w : World} {b bb : Nat} {F G : List Bk} {O Q : List (Nat × Bk)} {P : List Int} (hd : Dv S w b F O []) (hn : ∀ j, w.heap.size ≤ j → S j) (hb : Dv T w bb G Q P) (hN : Nib w) (hgS : ¬ S 0)
    (n : CaN) (hok : n.Ok) (hm : mayS n.I = true) (hF : F.length = n.size) (hG : G.length = n.bl) (hO : O.length ≤ 50000) :
    Calls Tryz.prog 16 #[.agg n.C.toArray, ptr b, ptr bb] w (FmtOut S w b (fmtF n F O)) := by
  obtain ⟨U, hU⟩ : ∃ U, U = n.C := ⟨_, rfl⟩
  obtain ⟨V, hV⟩ : ∃ V, V = layC n.sl n.jo n.pa n.lo := ⟨_, rfl⟩
  obtain ⟨Z, hZ⟩ : ∃ Z, Z = zB := ⟨_, rfl⟩
  have HZ := Lib.hid (And.intro (buildZ_run Z hZ) hZ)
  obtain ⟨y, hy⟩ : ∃ y, y = n.sec := ⟨_, rfl⟩
  obtain ⟨w1, hw1⟩ : ∃ w1, w1 = (w.alloc (.cells U.toArray 40)).alloc (.cells #[ptr b] 46) := ⟨_, rfl⟩
  have hu1 : Upd (fun _ => False) w w1 := by rw [hw1]; exact ((Upd.refl _ w).alloc _).alloc _
  have g1 : w1.heap[w.heap.size]? = some (.cells U.toArray 40) := by
    rw [hw1]; exact (((Upd.refl (fun _ => False) (w.alloc (.cells U.toArray 40))).alloc (.cells #[ptr b] 46))).blockv (heap_alloc_last w _ rfl)
  have g2 : w1.heap[w.heap.size + 1]? = some (.cells #[ptr b] 46) := by rw [hw1]; exact heap_alloc_last _ _ (by simp)
  have hsU : (Tryz.prog.info? 40).map (·.size) = some U.length := by rw [hU]; exact infoSup
  have hsV : (Tryz.prog.info? 43).map (·.size) = some V.length := by rw [hV]; exact infoLay
  have hV1 : ∀ v ∈ V, v.oneCell' = true := by rw [hV]; exact layC_mem _ _ _ _
  have hPl : ∀ W, Calls Tryz.prog 14 #[.agg U.toArray] W fun e w' => e = .returned (.tuple #[.agg V.toArray, .int .i64 0]) ∧ Below W.heap.size W w' := fun W => by
    rw [hU, hV]
    obtain ⟨b1, b2, s1, s2, j1, j2, l1, l2, a1, a2, p1, p2, z⟩ := hok
    exact plan_ok n.id n.bl n.sl n.jo n.pa n.lo n.ba b1 b2 s1 s2 j1 j2 l1 l2 a1 a2 p1 p2 z W
  have hPu : ∀ W, Nib W → Calls Tryz.prog 19 #[.agg U.toArray] W fun e w' => e = .returned (.tuple #[.agg (bkC y).toArray, .int .i64 0]) ∧ Below W.heap.size W w' := fun W hN => by
    rw [hU]
    refine (PutS_any hN n.C rfl n.I rfl (fun W => tellS _ _ _ _ _ _ _ W)).mono fun e w' ⟨h, hb⟩ => ⟨?_, hb⟩
    rcases h with ⟨-, rfl⟩ | ⟨h, -⟩
    · rw [hy]; rfl
    · rw [hm] at h; cases h
  have hMa : ∀ (S' T' : Nat → Prop) (W : World), Dv S' W b F O [] → Dv T' W bb G Q P → Calls Tryz.prog 55 #[.agg U.toArray, .agg V.toArray, ptr b, ptr bb] W fun e w' => e = .returned (.int .i64 0) ∧ Upd (fun _ => False) W w' := fun S' T' W h h' => by
    have := amatch h h' n.id n.bl n.sl n.jo n.pa n.lo n.ba
    rw [show matchC F G (sizeN n.sl n.jo n.pa n.lo) n.bl = 0 from if_pos ⟨hF, hG⟩] at this
    rw [hU, hV]
    exact this
  have HP := Lib.hid (And.intro hPl (And.intro hPu hMa))
  have HV := Lib.hid (And.intro hsU (And.intro hsV (And.intro hV1 (And.intro hU (And.intro hV hy)))))
  have H := Lib.hid (And.intro hd (And.intro hn (And.intro hb (And.intro hN (And.intro hgS (And.intro hok (And.intro hF hO)))))))
  have H1 := Lib.hid (And.intro hu1 (And.intro g1 (And.intro g2 hw1)))
  have rU := range_of_block g1
  have c1 := cell_of_block g2 0
  rw [← hU]
  clear hd hn hb hN hgS hok hF hO hU hV hy hZ hm hG hPl hPu hMa hu1 g1 g2 hw1 hsU hsV hV1
  go_enter Tryz.func16, Tryz.ntmps16
  have hVl : V.length = 7 := by rw [HV.out.2.2.2.2.1]; rfl
  have hyl : y.length = 64 := by rw [HV.out.2.2.2.2.2]; exact n.sec_len
  have hsy := sizeBk y hyl
  obtain ⟨q, hq⟩ : ∃ q, q = w.heap.size := ⟨_, rfl⟩
  have HQ := Lib.hid hq
  have H2 := Lib.hid (And.intro H1.out.1 (And.intro H1.out.2.1 (And.intro H1.out.2.2.1 (And.intro (lt_of_block H1.out.2.2.1) (And.intro hVl hyl)))))
  clear hq hVl hyl
  rw [H1.out.2.2.2] at rU
  go_wp2_with (first
    | (refine wpList_load_mid rfl _ _ rfl _ _ rfl _ _ rU Tryz.underlying40 rfl HV.out.1 ?_)
    | fail)
  rw [← H1.out.2.2.2]
  clear rU c1
  refine (HP.out.1 w1).mono ?_
  rintro e w3 ⟨rfl, hb3⟩
  obtain ⟨w4, hw4⟩ : ∃ w4, w4 = w3.alloc (.cells V.toArray 43) := ⟨_, rfl⟩
  have hu3 : Upd (fun _ => False) w1 w3 := Upd.of_below hb3
  have hu4 : Upd (fun _ => False) w3 w4 := by rw [hw4]; exact (Upd.refl _ w3).alloc _
  have U4 := (H2.out.1.trans hu3).trans hu4
  have rU4 := range_of_block ((hu3.trans hu4).blockv H2.out.2.1)
  rw [hw4] at rU4
  have HW4 := Lib.hid (And.intro hw4 (And.intro (hu3.trans hu4) (And.intro U4 (show w1.heap.size ≤ w3.heap.size from hu3.size))))
  have hVl := H2.out.2.2.2.2.1
  clear hb3 hu3 hu4 U4 hw4
  go_wp2_with (first
    | (refine wpList_store_new rfl _ _ _ rfl _ _ _ rfl rfl (by rw [hVl]; rfl) HV.out.2.1 HV.out.2.2.1 ?_)
    | (refine wpList_load_mid rfl _ _ rfl _ _ rfl _ _ rU4 Tryz.underlying40 rfl HV.out.1 ?_)
    | fail)
  rw [← HW4.out.1]
  refine (HP.out.2.1 w4 (H.out.2.2.2.1.keep HW4.out.2.2.1 (fun h => h))).mono ?_
  rintro e w5 ⟨rfl, hb5⟩
  obtain ⟨lb, hlb⟩ : ∃ lb, lb = w3.heap.size := ⟨_, rfl⟩
  obtain ⟨w6, hw6⟩ : ∃ w6, w6 = w5.alloc (.cells (bkC y).toArray 54) := ⟨_, rfl⟩
  have hu5 : Upd (fun _ => False) w4 w5 := Upd.of_below hb5
  have hu6 : Upd (fun _ => False) w5 w6 := by rw [hw6]; exact (Upd.refl _ w5).alloc _
  have U6 := (HW4.out.2.2.1.trans hu5).trans hu6
  have gl6 : w6.heap[lb]? = some (.cells V.toArray 43 (0, 0)) := (hu5.trans hu6).blockv (by rw [HW4.out.1, hlb]; exact heap_alloc_last w3 _ rfl)
  have gq6 := ((HW4.out.2.1.trans hu5).trans hu6).blockv H2.out.2.1
  have gd6 := ((HW4.out.2.1.trans hu5).trans hu6).blockv H2.out.2.2.1
  have gy6 : w6.heap[w5.heap.size]? = some (.cells (bkC y).toArray 54 (0, 0)) := by rw [hw6]; exact heap_alloc_last w5 _ rfl
  have rU6 := range_of_block gq6
  have rV6 := range_of_block gl6
  have rD6 := cell_of_block gd6 0
  have HM6 := Lib.hid (HP.out.2.2 _ _ w6 (H.out.1.new U6) (H.out.2.2.1.new U6))
  have H6 := Lib.hid (And.intro U6 (And.intro gl6 (And.intro gq6 (And.intro gd6 (And.intro gy6 (And.intro hlb (And.intro hw6 (show w4.heap.size ≤ w5.heap.size from hu5.size))))))))
  rw [hlb] at rV6
  rw [hw6] at rU6 rV6 rD6
  have hyl := H2.out.2.2.2.2.2
  clear hb5 hu5 hu6 U6 gl6 gq6 gd6 gy6 hw6 rU4 hlb
  go_wp2_with (first
    | (refine wpList_store_new rfl _ _ _ rfl _ _ (bkC y) rfl rfl (by rw [bkC_len, hyl]; rfl) hsy (bkC_one y) ?_)
    | (refine wpList_load_mid rfl _ _ rfl _ _ rfl _ _ rU6 Tryz.underlying40 rfl HV.out.1 ?_)
    | (refine wpList_load_mid rfl _ _ rfl _ _ rfl _ _ rV6 Tryz.underlying43 rfl HV.out.2.1 ?_)
    | fail)
  rw [← H6.out.2.2.2.2.2.2.1]
  refine HM6.out.mono ?_
  rintro e w7 ⟨rfl, hu7⟩
  have U7 := H6.out.1.trans hu7
  have gl7 := hu7.blockv H6.out.2.1
  have gq7 := hu7.blockv H6.out.2.2.1
  have gd7 := hu7.blockv H6.out.2.2.2.1
  have gy7 := hu7.blockv H6.out.2.2.2.2.1
  have c1 : w7.cell? ⟨w.heap.size + 1, 0, none⟩ = some (ptr b) := cell_of_block gd7 0
  have ry := range_of_block gy7
  obtain ⟨sb, hsb⟩ : ∃ sb, sb = w5.heap.size := ⟨_, rfl⟩
  obtain ⟨d, hd⟩ : ∃ d, d = w.heap.size + 1 := ⟨_, rfl⟩
  obtain ⟨lb, hlb⟩ : ∃ lb, lb = w3.heap.size := ⟨_, rfl⟩
  rw [← hsb] at gy7 ry
  rw [H6.out.2.2.2.2.2.1, ← hlb] at gl7
  rw [← hd] at gd7 c1
  have H7 := Lib.hid (And.intro U7 (And.intro gl7 (And.intro gq7 (And.intro gd7 (And.intro gy7 (And.intro hu7.size (And.intro hd (And.intro hlb hsb))))))))
  have hmf : ∀ (fn : Fn) (first cap : Array Value) (w : World), (Instr.makeFunc fn first cap).run Tryz.prog w = .ok (.func fn first cap) w := fun _ _ _ _ => rfl
  clear hu7 U7 gl7 gq7 gd7 gy7 rU6 rV6 rD6
  go_wp2_with fail
  rw [← hd, ← hlb, ← hsb]
  clear hsb hd hlb
  refine wp_region_held_drew (S := fun W => W.cell? ⟨d, 0, none⟩ = some (ptr b) ∧ W.rangeAt sb 0 (bkC y)) (by kernel_rfl) (⟨by rw [World.cell?_drew]; exact c1, by rw [World.rangeAt_drew]; exact ry⟩) (fun hHeld => ?_)
  refine Wl.i [0, 5, 6, 7, 3, 10, 4, 11] ?_; iterate 8 refine Wl.t hHeld ?_
  refine Wl.o ?_
  refine wpAnyH_take (i := 1) (v := .agg (bkC Z).toArray) rfl (by kernel_rfl) (by kernel_rfl) (by kernel_rfl) (fun _ _ _ h => h) (Or.inl ⟨by rfl, ?_⟩) hHeld ?_
  · intro W _
    simp only [execOp, List.getElem_toArray, List.getElem_cons_succ, List.getElem_cons_zero, List.map_toArray, List.map_nil, Sem.run_bind, HZ.out.1 W, Result.andThen_ok]
    rfl
  simp only [List.getElem_toArray, List.getElem_cons_succ, List.getElem_cons_zero, Act.put, List.setIfInBounds_toArray, List.set_cons_zero, List.set_cons_succ]
  refine Wl.l 8 (fun w h => h.2) Tryz.underlying54 hsy hHeld ?_
  refine Wl.r 2 (fun K hK => ?_)
  go_simp
  obtain ⟨q0, hq0⟩ : ∃ q0, q0 = w7.drew.heap.size := ⟨_, rfl⟩
  refine (fmt_mk d 0 Z _).mono ?_
  rintro e w8 ⟨he, hw8⟩
  rw [← hq0] at he
  subst he
  have hu8 : Upd (fun _ => False) w7 w8 := by rw [hw8]; exact (((Upd.refl _ w7).drew).alloc _).alloc _
  have z8 : w8.heap.size = q0 + 2 := by rw [hw8, hq0]; simp
  have gb8 : w8.heap[q0 + 1]? = some (.cells (bkC Z).toArray 54 (0, 0)) := by rw [hw8]; exact heap_alloc_last _ _ (by rw [hq0]; simp)
  have ga8 : w8.heap[q0]? = some (.cells #[.int .i64 0] 3 (0, 0)) := by
    rw [hw8]; exact ((Upd.refl (fun _ => False) (w7.drew.alloc (.cells #[.int .i64 0] 3))).alloc (.cells (bkC Z).toArray 54)).blockv (heap_alloc_last _ _ hq0)
  have H8 := Lib.hid (And.intro hu8 (And.intro z8 (And.intro ga8 (And.intro gb8 (show q0 = w7.heap.size from hq0)))))
  refine hK.out _ _ (⟨hu8.cellv c1 (fun h => h), hu8.range ry (fun h => h)⟩) (fun hHeld2 => ?_)
  clear hK K hHeld hu8 z8 gb8 ga8 hw8 hq0
  refine Wl.r 9 (fun K hK => ?_)
  go_simp
  refine (fmt_mk d 0 y _).mono ?_
  rintro e w9 ⟨he, hw9⟩
  rw [H8.out.2.1] at he
  subst he
  have hu9 : Upd (fun _ => False) w8 w9 := by rw [hw9]; exact ((Upd.refl _ w8).alloc _).alloc _
  have z9 : w9.heap.size = q0 + 4 := by rw [hw9]; simp [H8.out.2.1]
  have gb9 : w9.heap[q0 + 2 + 1]? = some (.cells (bkC y).toArray 54 (0, 0)) := by rw [hw9]; exact heap_alloc_last _ _ (by simp [H8.out.2.1])
  have ga9 : w9.heap[q0 + 2]? = some (.cells #[.int .i64 0] 3 (0, 0)) := by
    rw [hw9]; exact ((Upd.refl (fun _ => False) (w8.alloc (.cells #[.int .i64 0] 3))).alloc (.cells (bkC y).toArray 54)).blockv (heap_alloc_last _ _ H8.out.2.1.symm)
  have H9 := Lib.hid (And.intro hu9 (And.intro z9 (And.intro ga9 gb9)))
  refine hK.out _ _ (⟨hu9.cellv hHeld2.1 (fun h => h), hu9.range hHeld2.2 (fun h => h)⟩) (fun hHeld3 => ?_)
  clear hK K hHeld2 hu9 z9 gb9 ga9 hw9
  refine Wl.r 12 (fun K hK => ?_)
  go_simp
  show K _ (w9.alloc (.cells (fmtV d w.heap.size lb q0 b) 71))
  obtain ⟨w10, hw10⟩ : ∃ w10, w10 = w9.alloc (.cells (fmtV d w.heap.size lb q0 b) 71) := ⟨_, rfl⟩
  have hu10 : Upd (fun _ => False) w9 w10 := by rw [hw10]; exact (Upd.refl _ w9).alloc _
  have gg10 : w10.heap[w9.heap.size]? = some (.cells (fmtV d w.heap.size lb q0 b) 71 (0, 0)) := by rw [hw10]; exact heap_alloc_last w9 _ rfl
  have z10 : w10.heap.size = w9.heap.size + 1 := by rw [hw10]; simp
  obtain ⟨g, hg⟩ : ∃ g, g = w9.heap.size := ⟨_, rfl⟩
  rw [← hg] at gg10 z10
  rw [← hw10, ← hg]
  have H10 := Lib.hid (And.intro hu10 (And.intro gg10 (And.intro z10 hg)))
  refine hK.out _ _ (⟨hu10.cellv hHeld3.1 (fun h => h), hu10.range hHeld3.2 (fun h => h)⟩) (fun hHeld4 => ?_)
  clear hK K hHeld3 hu10 gg10 z10 hw10 hg
  refine Wl.r 13 (fun K hK => ?_)
  go_simp
  have HR : Hid (Calls Tryz.prog 61 #[.slice (some ⟨g, 0, none⟩) 6 6] w10 (fun e w' => e = .returned (.int .i64 0) ∧ Dv S w' b (fmtF n F O) [] [] ∧ Upd S w w' ∧ w'.cell? ⟨d, 0, none⟩ = some (ptr b) ∧ w'.rangeAt sb 0 (bkC y))) := by
    obtain ⟨hd0, hn0, -, hN0, hgS0, hok0, hF0, hO0⟩ := H.out
    obtain ⟨U7, gl7, gq7, gd7, gy7, z67, hde, hlbe, hsbe⟩ := H7.out
    obtain ⟨hu8, z8, ga8, gb8, hq0⟩ := H8.out
    obtain ⟨hu9, z9, ga9, gb9⟩ := H9.out
    obtain ⟨hu10, gg10, z10, hge⟩ := H10.out
    have U10 := ((U7.trans hu8).trans hu9).trans hu10
    have u710 := (hu8.trans hu9).trans hu10
    have s0 := lt_of_block gq7
    have s1 := lt_of_block gd7
    have s2 := lt_of_block gl7
    have s3 := lt_of_block gy7
    have sN := hN0.lt
    have s4 := H2.out.2.2.2.1
    have s5 := HW4.out.2.2.2
    have s6 : w3.heap.size ≤ w4.heap.size := by rw [HW4.out.1]; simp
    have s7 := H6.out.2.2.2.2.2.2.2
    have hs := n.s0_size
    have hT0 : ∀ i, w.heap.size ≤ i → i < w10.heap.size → ¬ ((S i ∧ i < w.heap.size) ∨ w10.heap.size ≤ i) := fun i h1 h2 h => by rcases h with h | h <;> omega
    have gl := u710.blockv gl7
    have gq := u710.blockv gq7
    rw [HV.out.2.2.2.2.1] at gl
    rw [HV.out.2.2.2.1] at gq
    have hr := fmt_row (T := fun j => (S j ∧ j < w.heap.size) ∨ w10.heap.size ≤ j) (w := w10) (b := b) (g := g) (d := d) (q := w.heap.size) (lb := lb) (q0 := q0) (n := n) (F := F) (O := O) hok0
      (((hd0.shrink (T := fun j => S j ∧ j < w.heap.size) (fun j h1 h2 => ⟨h1, h2⟩)).keep U10 (fun _ _ h => h)).wide (fun j h => .inl h)) (fun j hj => .inr hj) (hN0.keep U10 (fun h => h)) (fun h => by rcases h with h | h; exact hgS0 h.1; have := U10.size; omega) hF0 hO0 gg10
      (cell_of_block (u710.blockv gd7) 0) (cell_of_block gq 4) (cell_of_block gl 0) (by have h5 := cell_of_block gl 5; rw [h5]; simp [layC, CaN.s0])
      (cell_of_block ((hu9.trans hu10).blockv ga8) 0) (by rw [← HZ.out.2]; exact range_of_block ((hu9.trans hu10).blockv gb8)) (cell_of_block (hu10.blockv ga9) 0) (by rw [← HV.out.2.2.2.2.2]; exact range_of_block (hu10.blockv gb9))
      ⟨hT0 _ (by omega) (by omega), hT0 _ (by omega) (by omega), hT0 _ (by omega) (by omega), hT0 _ (by omega) (by omega), hT0 _ (by omega) (by omega), hT0 _ (by omega) (by omega), hT0 _ (by omega) (by omega), hT0 _ (by omega) (by omega)⟩
    refine hr.mono fun e w' ⟨he, hd', hu'⟩ => ⟨he, hd'.wide (fun j h => ?_), (U10.mono (fun _ _ h => h.elim)).new hu' (fun i hi h => ?_), hu'.cellv hHeld4.1 (hT0 _ (by omega) (by omega)), hu'.range hHeld4.2 (hT0 _ (by omega) (by omega))⟩
    · rcases h with h | h
      · exact h.1
      · exact hn0 j (by have := U10.size; omega)
    · rcases h with h | h
      · exact h.1
      · have := U10.size; omega
  refine HR.out.mono ?_
  rintro e w11 ⟨rfl, hd11, hu11, hc11, hr11⟩
  have HE := Lib.hid (And.intro hd11 hu11)
  refine hK.out _ _ (⟨hc11, hr11⟩) (fun hHeld5 => ?_)
  clear hK K hHeld4 hd11 hu11 hc11 hr11 HR
  refine Wl.r 14 (fun K hK => ?_)
  go_simp
  refine hK.out _ _ (hHeld5) (fun _ => ?_)
  clear hK K hHeld5
  refine Wl.d ?_
  go_wp2
  go_ret
  exact ⟨rfl, HE.out.1, HE.out.2⟩
end Go.Proofs.YtfhfbpmlnjdfoaaGreatDoor
