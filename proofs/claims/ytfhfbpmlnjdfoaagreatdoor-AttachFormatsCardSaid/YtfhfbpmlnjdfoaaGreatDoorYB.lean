/- attach.Format's other endings. Behind Attach of devices without blocks: the logs are noughts, all slots are free. The load of a whole array by an operation that bears a condition. -/
import Derived.Test.YtfhfbpmlnjdfoaaGreatDoorAZ
import Derived.Test.YtfhfbpmlnjdfoaaGreatDoorYA
import Derived.Test.YtfhfbpmlnjdfoaaGreatDoorA01
namespace Go.Proofs.YtfhfbpmlnjdfoaaGreatDoor
open Go Go.RowKit
def FmtNo (w : World) (cd : Int) (e : Ending) (w' : World) : Prop := e = .returned (.int .i64 cd) ∧ Upd (fun _ => False) w w'
set_option maxRecDepth 100000 in
theorem afmt_nil (id bl sl jo pa lo ba : Int) (v : Value) (w : World) : Calls Tryz.prog 16 #[.agg (superC id bl sl jo pa lo ba).toArray, .pointer none, v] w (FmtNo w 2) := by
  obtain ⟨U, hU⟩ : ∃ U, U = superC id bl sl jo pa lo ba := ⟨_, rfl⟩
  rw [← hU]
  clear hU
  obtain ⟨w1, hw1⟩ : ∃ w1, w1 = (w.alloc (.cells U.toArray 40)).alloc (.cells #[.pointer none] 46) := ⟨_, rfl⟩
  have hu1 : Upd (fun _ => False) w w1 := by rw [hw1]; exact ((Upd.refl _ w).alloc _).alloc _
  have g2 : w1.heap[w.heap.size + 1]? = some (.cells #[.pointer none] 46) := by rw [hw1]; exact heap_alloc_last _ _ (by simp)
  have c1 := cell_of_block g2 0
  have H1 := Lib.hid (And.intro hu1 hw1)
  rw [hw1] at c1
  clear hu1 g2 hw1
  go_enter Tryz.func16, Tryz.ntmps16
  go_wp2
  go_ret
  rw [← H1.out.2]
  exact ⟨rfl, H1.out.1⟩
set_option maxRecDepth 100000 in
set_option maxHeartbeats 1000000 in
theorem afmt_plan {id bl sl jo pa lo ba : Int} (hA : ¬ AdmP bl sl jo pa lo ba) (b bb : Nat) (w : World) : Calls Tryz.prog 16 #[.agg (superC id bl sl jo pa lo ba).toArray, ptr b, ptr bb] w (FmtNo w 24) := by
  obtain ⟨U, hU⟩ : ∃ U, U = superC id bl sl jo pa lo ba := ⟨_, rfl⟩
  obtain ⟨Z, hZ⟩ : ∃ Z : List Value, Z = [.int .i64 0, .int .i64 0, .int .i64 0, .int .i64 0, .int .i64 0, .int .i64 0, .int .i64 0] := ⟨_, rfl⟩
  have hPl : ∀ W, Calls Tryz.prog 14 #[.agg U.toArray] W fun e w' => e = .returned (.tuple #[.agg Z.toArray, .int .i64 24]) ∧ Below W.heap.size W w' := fun W => by
    rw [hU, hZ]; exact plan_bad hA id W
  have HP := Lib.hid hPl
  have hsU : (Tryz.prog.info? 40).map (·.size) = some U.length := by rw [hU]; exact infoSup
  have hZl : Z.length = 7 := by rw [hZ]; rfl
  have hsZ : (Tryz.prog.info? 43).map (·.size) = some Z.length := by rw [hZl]; exact infoLay
  have hZ1 : ∀ v ∈ Z, v.oneCell' = true := by rw [hZ]; exact List.all_eq_true.1 (by simp [Value.oneCell'])
  rw [← hU]
  clear hU hZ hA hPl
  obtain ⟨w1, hw1⟩ : ∃ w1, w1 = (w.alloc (.cells U.toArray 40)).alloc (.cells #[ptr b] 46) := ⟨_, rfl⟩
  have hu1 : Upd (fun _ => False) w w1 := by rw [hw1]; exact ((Upd.refl _ w).alloc _).alloc _
  have g1 : w1.heap[w.heap.size]? = some (.cells U.toArray 40) := by
    rw [hw1]; exact (((Upd.refl (fun _ => False) (w.alloc (.cells U.toArray 40))).alloc (.cells #[ptr b] 46))).blockv (heap_alloc_last w _ rfl)
  have g2 : w1.heap[w.heap.size + 1]? = some (.cells #[ptr b] 46) := by rw [hw1]; exact heap_alloc_last _ _ (by simp)
  have rU := range_of_block g1
  have c1 := cell_of_block g2 0
  have H1 := Lib.hid (And.intro hu1 hw1)
  rw [hw1] at rU c1
  clear hu1 g1 g2 hw1
  go_enter Tryz.func16, Tryz.ntmps16
  go_wp2_with (first
    | (refine wpList_load_mid rfl _ _ rfl _ _ rfl _ _ rU Tryz.underlying40 rfl hsU ?_)
    | fail)
  rw [← H1.out.2]
  refine (HP.out _).mono ?_
  rintro e w3 ⟨rfl, hb3⟩
  have hu3 : Upd (fun _ => False) w w3 := H1.out.1.trans (Upd.of_below hb3)
  have H3 := Lib.hid hu3
  clear hb3 hu3 rU c1
  go_wp2_with (first
    | (refine wpList_store_new rfl _ _ _ rfl _ _ Z rfl rfl (by rw [hZl]; rfl) hsZ hZ1 ?_)
    | fail)
  go_ret
  exact ⟨rfl, H3.out.alloc _⟩
set_option maxRecDepth 100000 in
set_option maxHeartbeats 1000000 in
theorem afmt_no {S T : Nat → Prop} {w : World} {b bb : Nat} {F G : List Bk} {O Q : List (Nat × Bk)} {P R : List Int} (hd : Dv S w b F O P) (hb : Dv T w bb G Q R) (hN : Nib w)
    (id : Int) (n : CaN) (hok : n.Ok) (cd : Int) (hcd : cd ≠ 0) (hc : (mayS [id, n.bl, n.sl, n.jo, n.pa, n.lo, n.ba] = false ∧ cd = 10) ∨ (mayS [id, n.bl, n.sl, n.jo, n.pa, n.lo, n.ba] = true ∧ cd = matchC F G n.size n.bl)) :
    Calls Tryz.prog 16 #[.agg (superC id n.bl n.sl n.jo n.pa n.lo n.ba).toArray, ptr b, ptr bb] w (FmtNo w cd) := by
  obtain ⟨U, hU⟩ : ∃ U, U = superC id n.bl n.sl n.jo n.pa n.lo n.ba := ⟨_, rfl⟩
  obtain ⟨V, hV⟩ : ∃ V, V = layC n.sl n.jo n.pa n.lo := ⟨_, rfl⟩
  obtain ⟨pc, hpc⟩ : ∃ pc : Int, pc = if mayS [id, n.bl, n.sl, n.jo, n.pa, n.lo, n.ba] = true then 0 else 10 := ⟨_, rfl⟩
  obtain ⟨y, hy, hyl⟩ : ∃ y, (y = if mayS [id, n.bl, n.sl, n.jo, n.pa, n.lo, n.ba] = true then sectS [id, n.bl, n.sl, n.jo, n.pa, n.lo, n.ba] else zB) ∧ y.length = 64 := ⟨_, rfl, by split; exact sectS_len rfl; exact zB_len⟩
  have hsU : (Tryz.prog.info? 40).map (·.size) = some U.length := by rw [hU]; exact infoSup
  have hVl : V.length = 7 := by rw [hV]; rfl
  have hsV : (Tryz.prog.info? 43).map (·.size) = some V.length := by rw [hVl]; exact infoLay
  have hV1 : ∀ v ∈ V, v.oneCell' = true := by rw [hV]; exact layC_mem _ _ _ _
  have hsy := sizeBk y hyl
  have hPl : ∀ W, Calls Tryz.prog 14 #[.agg U.toArray] W fun e w' => e = .returned (.tuple #[.agg V.toArray, .int .i64 0]) ∧ Below W.heap.size W w' := fun W => by
    rw [hU, hV]
    obtain ⟨b1, b2, s1, s2, j1, j2, l1, l2, a1, a2, p1, p2, z⟩ := hok
    exact plan_ok id n.bl n.sl n.jo n.pa n.lo n.ba b1 b2 s1 s2 j1 j2 l1 l2 a1 a2 p1 p2 z W
  have hPu : ∀ W, Nib W → Calls Tryz.prog 19 #[.agg U.toArray] W fun e w' => e = .returned (.tuple #[.agg (bkC y).toArray, .int .i64 pc]) ∧ Below W.heap.size W w' := fun W hN => by
    rw [hU]
    refine (PutS_any hN (superC id n.bl n.sl n.jo n.pa n.lo n.ba) rfl [id, n.bl, n.sl, n.jo, n.pa, n.lo, n.ba] rfl (fun W => tellS _ _ _ _ _ _ _ W)).mono fun e w' ⟨h, hb⟩ => ⟨?_, hb⟩
    rcases h with ⟨h1, rfl⟩ | ⟨h1, rfl⟩
    · rw [hy, hpc, if_pos h1, if_pos h1]
    · rw [hy, hpc, if_neg (by rw [h1]; simp), if_neg (by rw [h1]; simp)]
  have hMa : ∀ (S' T' : Nat → Prop) (W : World), Dv S' W b F O P → Dv T' W bb G Q R → Calls Tryz.prog 55 #[.agg U.toArray, .agg V.toArray, ptr b, ptr bb] W fun e w' => e = .returned (.int .i64 (matchC F G n.size n.bl)) ∧ Upd (fun _ => False) W w' := fun S' T' W h h' => by
    have := amatch h h' id n.bl n.sl n.jo n.pa n.lo n.ba
    rw [hU, hV]
    exact this
  have HP := Lib.hid (And.intro hPl (And.intro hPu hMa))
  have hpp : (pc = 10 ∧ cd = 10) ∨ (pc = 0 ∧ cd = matchC F G n.size n.bl) := by
    rcases hc with ⟨h1, h2⟩ | ⟨h1, h2⟩
    · exact .inl ⟨by rw [hpc, if_neg (by rw [h1]; simp)], h2⟩
    · exact .inr ⟨by rw [hpc, if_pos h1], h2⟩
  rw [← hU]
  have H := Lib.hid (And.intro hd (And.intro hb (And.intro hN hpp)))
  have HC := Lib.hid hcd
  clear hU hV hok hc hPl hPu hMa hpc hy hd hb hN hpp hcd
  obtain ⟨w1, hw1⟩ : ∃ w1, w1 = (w.alloc (.cells U.toArray 40)).alloc (.cells #[ptr b] 46) := ⟨_, rfl⟩
  have hu1 : Upd (fun _ => False) w w1 := by rw [hw1]; exact ((Upd.refl _ w).alloc _).alloc _
  have g1 : w1.heap[w.heap.size]? = some (.cells U.toArray 40) := by
    rw [hw1]; exact (((Upd.refl (fun _ => False) (w.alloc (.cells U.toArray 40))).alloc (.cells #[ptr b] 46))).blockv (heap_alloc_last w _ rfl)
  have g2 : w1.heap[w.heap.size + 1]? = some (.cells #[ptr b] 46) := by rw [hw1]; exact heap_alloc_last _ _ (by simp)
  have rU := range_of_block g1
  have c1 := cell_of_block g2 0
  have H1 := Lib.hid (And.intro hu1 (And.intro hw1 (And.intro g1 g2)))
  rw [hw1] at rU c1
  clear hu1 g1 g2 hw1
  go_enter Tryz.func16, Tryz.ntmps16
  go_wp2_with (first
    | (refine wpList_load_mid rfl _ _ rfl _ _ rfl _ _ rU Tryz.underlying40 rfl hsU ?_)
    | fail)
  rw [← H1.out.2.1]
  refine (HP.out.1 _).mono ?_
  rintro e w3 ⟨rfl, hb3⟩
  obtain ⟨w4, hw4⟩ : ∃ w4, w4 = w3.alloc (.cells V.toArray 43) := ⟨_, rfl⟩
  have hu3 : Upd (fun _ => False) w1 w3 := Upd.of_below hb3
  have hu4 : Upd (fun _ => False) w3 w4 := by rw [hw4]; exact (Upd.refl _ w3).alloc _
  have U4 := hu3.trans hu4
  have rU4 := range_of_block (U4.blockv H1.out.2.2.1)
  have gV4 : w4.heap[w3.heap.size]? = some (.cells V.toArray 43 (0, 0)) := by rw [hw4]; exact heap_alloc_last w3 _ rfl
  have H4 := Lib.hid (And.intro hw4 (And.intro (H1.out.1.trans U4) (And.intro (U4.blockv H1.out.2.2.1) (And.intro (U4.blockv H1.out.2.2.2) gV4))))
  rw [hw4] at rU4
  clear hb3 hu3 hu4 U4 hw4 gV4 rU c1
  go_wp2_with (first
    | (refine wpList_store_new rfl _ _ _ rfl _ _ V rfl rfl (by rw [hVl]; rfl) hsV hV1 ?_)
    | (refine wpList_load_mid rfl _ _ rfl _ _ rfl _ _ rU4 Tryz.underlying40 rfl hsU ?_)
    | fail)
  rw [← H4.out.1]
  refine (HP.out.2.1 w4 (H.out.2.2.1.keep H4.out.2.1 (fun h => h))).mono ?_
  rintro e w5 ⟨rfl, hb5⟩
  have hu5 : Upd (fun _ => False) w4 w5 := Upd.of_below hb5
  obtain ⟨w6, hw6⟩ : ∃ w6, w6 = w5.alloc (.cells (bkC y).toArray 54) := ⟨_, rfl⟩
  have hu6 : Upd (fun _ => False) w5 w6 := by rw [hw6]; exact (Upd.refl _ w5).alloc _
  have U6 := hu5.trans hu6
  have rU6 := range_of_block (U6.blockv H4.out.2.2.1)
  have rV6 := range_of_block (U6.blockv H4.out.2.2.2.2)
  have rD6 := cell_of_block (U6.blockv H4.out.2.2.2.1) 0
  have H6 := Lib.hid (And.intro hw6 (H4.out.2.1.trans U6))
  rw [hw6] at rU6 rV6 rD6
  clear hb5 hu5 hu6 U6 hw6 rU4
  obtain ⟨rfl, hcd⟩ | ⟨rfl, hcd⟩ := H.out.2.2.2
  · go_wp2_with (first
      | (refine wpList_store_new rfl _ _ _ rfl _ _ (bkC y) rfl rfl (by rw [bkC_len, hyl]; rfl) hsy (bkC_one y) ?_)
      | fail)
    go_ret
    rw [← H6.out.1]
    refine ⟨?_, H6.out.2⟩
    rw [hcd]
    rfl
  · go_wp2_with (first
      | (refine wpList_store_new rfl _ _ _ rfl _ _ (bkC y) rfl rfl (by rw [bkC_len, hyl]; rfl) hsy (bkC_one y) ?_)
      | (refine wpList_load_mid rfl _ _ rfl _ _ rfl _ _ rU6 Tryz.underlying40 rfl hsU ?_)
      | (refine wpList_load_mid rfl _ _ rfl _ _ rfl _ _ rV6 Tryz.underlying43 rfl hsV ?_)
      | fail)
    rw [← H6.out.1]
    refine (HP.out.2.2 _ _ _ (H.out.1.new H6.out.2) (H.out.2.1.new H6.out.2)).mono ?_
    rintro e w7 ⟨rfl, hu7⟩
    have q0 : (matchC F G n.size n.bl == 0) = false := by rw [← hcd]; simpa using HC.out
    have H7 := Lib.hid (H6.out.2.trans hu7)
    have HE := Lib.hid hcd
    obtain ⟨m, hm⟩ : ∃ m, m = matchC F G n.size n.bl := ⟨_, rfl⟩
    rw [← hm] at q0 HE ⊢
    clear hu7 rU6 rV6 rD6 hm hcd
    go_wp2
    go_ret
    refine ⟨?_, H7.out⟩
    rw [HE.out]
    rfl
def empA (n : CaN) (wh sq : Nat) (F : List Bk) (O : List (Nat × Bk)) (G : List Bk) (Q : List (Nat × Bk)) : CaS := ((caS0 n wh (sq + 1) F O [] G Q []).ckpt n).1
theorem empA_eq (n : CaN) (wh sq : Nat) (F : List Bk) (O : List (Nat × Bk)) (G : List Bk) (Q : List (Nat × Bk)) : empA n wh sq F O G Q = ckpS n (caS0 n wh (sq + 1) F O [] G Q []) [] := by unfold empA; rw [ckpt_new rfl rfl rfl]
theorem pos_noughts (k : Nat) : (pos (List.replicate k 0) 0).length = k ∧ pos (List.replicate k 0) 3 = [] := by
  have e : ∀ i, i < k → (List.replicate k (0 : Int))[i]?.getD 0 = 0 := fun i hi => by rw [List.getElem?_replicate, if_pos hi]; rfl
  constructor
  · unfold pos posTo
    rw [List.filter_eq_self.2 (fun i hi => by rw [e i (by simpa using hi)]; rfl), List.length_range, List.length_replicate]
  · unfold pos posTo
    refine List.filter_eq_nil_iff.2 (fun i hi => ?_)
    rw [e i (by simpa using hi)]
    decide
theorem empA_free (n : CaN) (wh sq : Nat) (F : List Bk) (O : List (Nat × Bk)) (G : List Bk) (Q : List (Nat × Bk)) : (pos (empA n wh sq F O G Q).st 0).length = n.sl := by
  rw [empA_eq]
  show (pos (freeTo (List.replicate n.sl 0) (pos (List.replicate n.sl 0) 3)) 0).length = n.sl
  rw [(pos_noughts n.sl).2]
  exact (pos_noughts n.sl).1
theorem empA_zs {n : CaN} {wh sq : Nat} {F : List Bk} {O : List (Nat × Bk)} {G : List Bk} {Q : List (Nat × Bk)} (hE : Emp n F O wh sq) : ∀ j, j < n.lo + n.lo + n.lo → curB (empA n wh sq F O G Q).dF (empA n wh sq F O G Q).dO (1 + 2 * n.pa + n.jo + j) = zB := by
  intro j hj
  have h1 := hE.zs j hj
  have hw := hE.wh1
  rw [empA_eq]
  show curB (flushF (flushF F O) (ckO (1 + (1 - wh) * n.pa) n.pa (pagesB _ []))) [] (1 + 2 * n.pa + n.jo + j) = zB
  show (flushF (flushF F O) (ckO (1 + (1 - wh) * n.pa) n.pa (pagesB _ []))).getD (1 + 2 * n.pa + n.jo + j) zB = zB
  rw [List.getD_eq_getElem?_getD, flush_ckO, if_neg]
  · rw [← List.getD_eq_getElem?_getD]
    exact h1
  · have : (1 - wh) * n.pa ≤ 1 * n.pa := Nat.mul_le_mul_right _ (by omega)
    omega
theorem empA_logs {own : Nat → Nat} {w : World} {c li lc lf : Nat} {n : CaN} {p : CaP} {wh sq : Nat} {F : List Bk} {O : List (Nat × Bk)} {G : List Bk} {Q : List (Nat × Bk)} (hE : Emp n F O wh sq) (hca : CaAt own w c n p (empA n wh sq F O G Q)) (hL : Lg3 own w n p.ssd li lc lf) :
    LgsZ (fun j => own j = 2 ∨ w.heap.size ≤ j) w li lc lf p.ssd (1 + 2 * n.pa + n.jo) n.lo (empA n wh sq F O G Q).dF (empA n wh sq F O G Q).dO where
  i := hL.1.1
  c := hL.1.2.1
  f := hL.1.2.2
  dv := by
    have h := hca.open2
    have e : (empA n wh sq F O G Q).dP = [] := by rw [empA_eq]; rfl
    rw [e] at h
    exact h
  fl := by rw [hca.fl]; unfold CaN.size; omega
  nS := fun j hj => .inr hj
  iS := fun h => by have := hL.1.1.lt; rcases h with h | h; rw [hL.2.1] at h; cases h; omega
  cS := fun h => by have := hL.1.2.1.lt; rcases h with h | h; rw [hL.2.2.1] at h; cases h; omega
  fS := fun h => by have := hL.1.2.2.lt; rcases h with h | h; rw [hL.2.2.2] at h; cases h; omega
  nib := hca.nib
  nibS := fun h => by have := hca.nib.lt; rcases h with h | h; rw [hca.on] at h; cases h; omega
  zs := empA_zs hE
theorem wpList_load_midW {P : Program} {ops : Array Oper} {rest : List Oper} {op : Oper} {a : Act} {w : World} {Q : Exit → Act → World → Prop} (hw : Region.wanted op (yielded ops a.tmps) = true) (ty : TypeId) (x : Operand) (ho : op.op = .load ty x)
    (b o : Nat) (hx : a.eval x = .pointer (some ⟨b, o, none⟩)) (cs : List Value) (d : TypeDesc) (hc : w.rangeAt b o cs)
    (hu : P.underlying ty = some d) (hd : d.isRow = true) (hi : (P.info? ty).map (·.size) = some cs.length)
    (h : wpList P ops Q rest (a.put op.dst (.agg cs.toArray)) w) : wpList P ops Q (op :: rest) a w :=
  wpList_step fun K hK => by rw [if_pos hw]; exact wp_load_mid ty x ho b o hx cs d hc hu hd hi (hK _ _ h)
end Go.Proofs.YtfhfbpmlnjdfoaaGreatDoor
