/- Which intents have no end: Waits. Things of numbers from 0 to 11 in the three logs: what the logs hold behind puts, by the bits of numbers. -/
import Derived.Test.YtnadilfobmgebaaGreatDoorG40
import Derived.Test.YtnadilfobmgebaaGreatDoorG29
import Derived.Test.YtnadilfobmgebaaGreatDoorG36
import Derived.Test.YtnadilfobmgebaaGreatDoorG39
namespace Go.Proofs.YtnadilfobmgebaaGreatDoor
open Go Go.RowKit
section
variable {S : Nat → Prop} {w w' : World} {li lc lf d k : Nat} {F : List Bk} {O : List (Nat × Bk)} {P : List Int}
theorem L17.beside2 {T : Nat → Prop} (h : L17 S w li lc lf d k F O P) (hu : Upd T w w') (hT : ∀ j, j < w.heap.size → T j → ¬ S j ∧ j ≠ li ∧ j ≠ lc ∧ j ≠ lf ∧ j ≠ 0) : L17 (fun j => S j ∧ ¬ (w.heap.size ≤ j ∧ j < w'.heap.size)) w' li lc lf d k F O P :=
  have hu' : Upd (fun j => j < w.heap.size ∧ T j) w w' := hu.mono (fun j hj ht => ⟨hj, ht⟩)
  { h.keep hu' (fun j hj => hT j hj.1 hj.2) with
    dv := (h.dv.out (S' := fun j => S j ∧ ¬ (w.heap.size ≤ j ∧ j < w'.heap.size)) (fun j hj hs => ⟨hs, fun e => by omega⟩)).keep hu' (fun j hj ht => (hT j ht.1 ht.2).1 hj.1)
    nS := fun j hj => ⟨h.nS j (Nat.le_trans hu.size hj), fun e => by omega⟩
    iS := fun hs => h.iS hs.1
    cS := fun hs => h.cS hs.1
    fS := fun hs => h.fS hs.1
    nibS := fun hs => h.nibS hs.1 }
end
def waitsB (k : Nat) (F : List Bk) (O : List (Nat × Bk)) (j : Nat) : Bool := ((headsC k F O).count (j : Int) == 0) && ((headsF k F O).count (j : Int) == 0)
def waitL (k : Nat) (F : List Bk) (O : List (Nat × Bk)) : List Nat := (thereL kindI 11 k F O).filter (waitsB k F O)
def waitCells (F : List Bk) (O : List (Nat × Bk)) (l : List Nat) : List (List Value) := l.map fun j => kindI.ds (curB F O (11 + j))
def WaitsOut (S : Nat → Prop) (w : World) (li lc lf d k : Nat) (F : List Bk) (O : List (Nat × Bk)) (e : Ending) (w' : World) : Prop :=
  ∃ v, e = .returned (.tuple #[v, .int .i64 0]) ∧ ∃ S', (∀ j, S' j → S j) ∧ L17 S' w' li lc lf d k F O [] ∧ Sl w' 39 4 v (waitL k F O).length (waitCells F O (waitL k F O)).flatten ∧ (∀ g, v.ownBlock = some g → ¬ S' g ∧ w.heap.size ≤ g) ∧ Upd S w w'
set_option maxRecDepth 100000 in
set_option maxHeartbeats 2000000 in
theorem waits_ok {S : Nat → Prop} {w : World} {li lc lf d k : Nat} {F : List Bk} {O : List (Nat × Bk)} (h : L17 S w li lc lf d k F O []) (hk : k ≤ 1000) (hfi : fineAll kindI zsI 11 k F O) (hfc : fineAll kindC zsC (11 + k) k F O) (hff : fineAll kindF zsF (11 + k + k) k F O) :
    Calls Tryz.prog 33 #[.agg #[ptr li, ptr lc, ptr lf]] w (WaitsOut S w li lc lf d k F O) := by
  have hu : Upd (fun _ => False) w (w.alloc (.cells #[ptr li, ptr lc, ptr lf] 28)) := (Upd.refl _ w).alloc _
  have hg := heap_alloc_last w (.cells #[ptr li, ptr lc, ptr lf] 28) rfl
  have hb := h.box (.cells #[ptr li, ptr lc, ptr lf] 28)
  have hz : (w.alloc (.cells #[ptr li, ptr lc, ptr lf] 28)).heap.size = w.heap.size + 1 := by simp
  obtain ⟨B, hB⟩ : ∃ B : Nat → Prop, B = fun j => S j ∧ j ≠ w.heap.size := ⟨_, rfl⟩
  rw [← hB] at hb
  have hBS : ∀ j, B j → S j := fun j hj => by rw [hB] at hj; exact hj.1
  have hBw : ¬ B w.heap.size := fun hj => by rw [hB] at hj; exact hj.2 rfl
  have H := Lib.hid (And.intro h (And.intro hBS (And.intro hBw (And.intro hfi (And.intro hfc (And.intro hff hk))))))
  have hmm := @run_makeMap Tryz.prog
  clear h hB hBS hBw hfi hfc hff
  go_enter Tryz.func33, Tryz.ntmps33
  go_wp2_with fail
  change Calls _ _ _ (w.alloc (.cells #[ptr li, ptr lc, ptr lf] 28)) _
  generalize w.alloc (.cells #[ptr li, ptr lc, ptr lf] 28) = w1 at *
  have HA := Lib.hid (allI hb.i hb.dv hb.nS hb.iS hb.nib hb.nibS tellsOpen1 (by have := hb.fl; omega))
  have H1 := Lib.hid (And.intro hb (And.intro hg (And.intro hu hz)))
  clear hb hg hu hz
  refine HA.out.mono ?_
  rintro e w2 (⟨-, v, rfl, T, hTS, hTn, hdT, hsl, hown, hfrom, hU⟩ | ⟨i, hi, -, hnf, rfl, -, -⟩)
  · rw [allTo_there] at hsl
    obtain ⟨cs, hcs⟩ : ∃ cs, cs = (thereL kindI 11 k F O).map fun j => kindI.ds (curB F O (11 + j)) := ⟨_, rfl⟩
    rw [← hcs] at hsl
    have hg64 : ∀ s, (curB F O s).length = 64 := fun s => curB_len hdT.good s
    have hck : ∀ x ∈ cs, x.length = 4 := fun x hx => by
      rw [hcs] at hx
      obtain ⟨j, -, rfl⟩ := List.mem_map.1 hx
      exact (kindI_ok _ (hg64 _)).2.2.1
    have hc1 : ∀ x ∈ cs, ∀ u ∈ x, u.oneCell' = true := fun x hx => by
      rw [hcs] at hx
      obtain ⟨j, -, rfl⟩ := List.mem_map.1 hx
      exact (kindI_ok _ (hg64 _)).2.2.2.1
    have hlk : cs.length ≤ k := by
      rw [hcs, List.length_map]
      have := List.length_filter_le (fun j => getCd kindI (curB F O (11 + j)) j == 0) (List.range k)
      rw [List.length_range] at this
      exact this
    have hll : cs.length = (thereL kindI 11 k F O).length := by rw [hcs, List.length_map]
    have hhd : ∀ p (hp : p < cs.length), ∃ a : Nat, a < k ∧ (cs[p])[0]? = some (.int .i64 (a : Int)) ∧ (thereL kindI 11 k F O)[p]? = some a ∧ cs[p] = kindI.ds (curB F O (11 + a)) := fun p hp => by
      have hp' : p < (thereL kindI 11 k F O).length := by rw [hcs, List.length_map] at hp; exact hp
      obtain ⟨h1, h2⟩ := thereL_nm (List.getElem_mem hp')
      have e : cs[p] = kindI.ds (curB F O (11 + (thereL kindI 11 k F O)[p])) := by simp [hcs]
      exact ⟨_, h1, by rw [e, (kindI_ok _ (hg64 _)).2.2.2.2, h2], List.getElem?_eq_getElem hp', e⟩
    obtain ⟨ao, cap, rfl⟩ := hsl.rd.nil_iff
    obtain ⟨hb, hg, hu, hz⟩ := H1.out
    have hL2 := hb.turn (hU) (hdT.wide hTS) rfl
    have hL2T : L17 T w2 li lc lf d k F O [] := { hL2 with dv := hdT, nS := hTn, iS := fun h => hL2.iS (hTS _ h), cS := fun h => hL2.cS (hTS _ h), fS := fun h => hL2.fS (hTS _ h), nibS := fun h => hL2.nibS (hTS _ h) }
    have hL3 := hL2T.box (.map #[] 0)
    have hm3 := MapAt.made w2
    have hg2 := (hU.block _ (lt_of_block hg) H.out.2.2.1).trans hg
    have hu3 : Upd (fun _ => False) w2 (w2.alloc (.map #[] 0)) := (Upd.refl _ w2).alloc _
    have hg3 := hu3.blockv hg2
    have c1 : (w2.alloc (.map #[] 0)).cell? ⟨w.heap.size, 1, none⟩ = some (ptr lc) := cell_of_block hg3 1
    have hli := hb.i.lt
    have hlc := hb.c.lt
    have hlf := hb.f.lt
    have hnl := hb.nib.lt
    have hU2 := hU.size
    have HGC := Lib.hid (gatherC hL3 H.out.2.2.2.2.2.2 hm3 ⟨fun h => h.2 rfl, by omega, by omega, by omega, by omega⟩ H.out.2.2.2.2.1 (by omega) (by intro x; simp))
    have HC := Lib.hid (And.intro hck (And.intro hc1 (And.intro hlk (And.intro hll hhd))))
    have hsl3 := hsl.keep hu3 (fun _ _ h => h)
    have hlt2 := fun g (e : (Value.slice ao cs.length cap).ownBlock = some g) => hsl.lt e
    have HX := Lib.hid (And.intro hTS (And.intro hsl3 (And.intro hown (And.intro hfrom (And.intro hlt2 (And.intro (hU.trans (hu3.mono (fun _ _ h => h.elim))) hg3))))))
    have HZ : Hid (li < w2.heap.size ∧ lc < w2.heap.size ∧ lf < w2.heap.size ∧ 0 < w2.heap.size ∧ w.heap.size < w2.heap.size) := ⟨by omega, by omega, by omega, by omega, by have := lt_of_block hg2; exact this⟩
    clear hli hlc hlf hnl hU2 hTS hTn hdT hsl hown hfrom hU hcs hg64 hck hc1 hlk hll hhd hb hg hu hz hL2 hL2T hL3 hm3 hg2 hu3 hg3 hsl3 hlt2 HA
    go_wp2_with fail
    refine HGC.out.mono ?_
    rintro e w4 ⟨rfl, hL4, hm4, hu4⟩
    have hTw : ¬ T w.heap.size := fun h => H.out.2.2.1 (HX.out.1 _ h)
    have hg4 := (hu4.block _ (lt_of_block HX.out.2.2.2.2.2.2) (fun h => h.elim (fun h => hTw h.1) (fun h => by have := HZ.out; omega))).trans HX.out.2.2.2.2.2.2
    have c2 : w4.cell? ⟨w.heap.size, 2, none⟩ = some (ptr lf) := cell_of_block hg4 2
    have HGF := Lib.hid (gatherF hL4 H.out.2.2.2.2.2.2 hm4 ⟨fun h => h.2 rfl, by have := HZ.out; omega, by have := HZ.out; omega, by have := HZ.out; omega, by have := HZ.out; omega⟩ H.out.2.2.2.2.2.1 (by have := H.out.2.2.2.2.2.2; omega) (fun x => by
      rw [bumps_get]
      have h1 := List.count_le_length (a := x) (l := headsC k F O)
      have h2 : (headsC k F O).length ≤ k := by
        unfold headsC thereL
        rw [List.length_map]
        have := List.length_filter_le (fun j => getCd kindC (curB F O ((11 + k) + j)) j == 0) (List.range k)
        rw [List.length_range] at this
        exact this
      have := H.out.2.2.2.2.2.2
      simp; omega))
    have hsl4 := HX.out.2.1.keep hu4 (fun g hg h => h.elim (fun h => HX.out.2.2.1 g hg h.1) (fun h => by have := HX.out.2.2.2.2.1 g hg; omega))
    have H4 := Lib.hid (And.intro hsl4 (And.intro hu4 hTw))
    clear hL4 hm4 hu4 hTw hg4 c1 hsl4 HGC
    go_wp2_with fail
    refine HGF.out.mono ?_
    rintro e w5 ⟨rfl, hL5, hm5, hu5⟩
    have hsl5 := H4.out.1.keep hu5 (fun g hg h => h.elim (fun h => HX.out.2.2.1 g hg h.1) (fun h => by have := HX.out.2.2.2.2.1 g hg; omega))
    have hU5 : Upd S w w5 := (H1.out.2.2.1.mono (fun _ _ h => h.elim)).trans ((HX.out.2.2.2.2.2.1.mono (fun j _ h => H.out.2.1 j h)).trans ((H4.out.2.1.trans hu5).mono (fun j hj h => h.elim (fun h => H.out.2.1 j (HX.out.1 j h.1)) (fun h => H.out.1.nS j (by have := HZ.out; omega)))))
    have hget : ∀ j : Nat, (((bumps (bumps (fun _ => none) (headsC k F O)) (headsF k F O)) (j : Int)).getD 0 = 0) ↔ waitsB k F O j = true := fun j => by
      rw [bumps_get, bumps_get]
      unfold waitsB
      simp
    have H5 := Lib.hid (And.intro hL5 (And.intro hm5 (And.intro hsl5 (And.intro hU5 hget))))
    have HS5 : Hid (w.heap.size < w5.heap.size ∧ w2.heap.size < w5.heap.size) := by
      have h1 := hu5.size
      have h2 := H4.out.2.1.size
      simp at h2
      have := HZ.out
      exact ⟨by omega, by omega⟩
    clear hL5 hm5 hu5 hsl5 hU5 hget c2 HGF
    obtain ⟨f, hf⟩ : ∃ f, f = bumps (bumps (fun _ => none) (headsC k F O)) (headsF k F O) := ⟨_, rfl⟩
    rw [← hf] at H5
    have HF := Lib.hid hf
    clear hf
    go_wp2
    go_loopw [9, 38] (fun s9 s38 wr => ∃ p : Nat, p ≤ cs.length ∧ s38 = .int .i64 p ∧ Below w5.heap.size w5 wr ∧ Sl wr 39 4 s9 (((thereL kindI 11 k F O).take p).filter (waitsB k F O)).length (waitCells F O (((thereL kindI 11 k F O).take p).filter (waitsB k F O))).flatten ∧ From w5.heap.size s9) (fun _ s38 _ => cs.length - (intOf s38).toNat)
    case atStart => exact ⟨0, Nat.zero_le _, rfl, Below.refl _ _, Sl.nil _ _ _, From.nil _ _ _⟩
    case round =>
      obtain ⟨p, hp, rfl, hbr, hs9, hf9⟩ := hrel
      have hur : Upd (fun _ => False) w5 wr := Upd.of_below hbr
      by_cases hlt : p < cs.length
      · obtain ⟨hck, hc1, hlk, hll, hhd⟩ := HC.out
        obtain ⟨a, ha, hx0, hx1, hx2⟩ := hhd p hlt
        have hslr := H5.out.2.2.1.keep hur (fun _ _ h => h)
        obtain ⟨bl, off, cp, he, rP⟩ := hslr.rd.thing_at hck (by decide) hlt
        cases he
        have hx4 := hck cs[p] (List.getElem_mem hlt)
        have hx1c := hc1 cs[p] (List.getElem_mem hlt)
        obtain ⟨xs, hxs⟩ : ∃ xs, xs = cs[p] := ⟨_, rfl⟩
        rw [← hxs] at rP hx4 hx1c hx0 hx2
        have hsi : Hid ((Tryz.prog.info? 39).map (·.size) = some xs.length) := by show _ = _; rw [hx4]; exact infoIn
        have hA := heap_alloc_last wr (.cells xs.toArray 39) rfl
        have rA := range_of_block hA
        have cA : (wr.alloc (.cells xs.toArray 39)).cell? ⟨wr.heap.size, 0, none⟩ = some (.int .i64 (a : Int)) := (cell_of_block hA 0).trans (by rw [List.getElem?_toArray]; exact hx0)
        have hua : Upd (fun _ => False) wr (wr.alloc (.cells xs.toArray 39)) := (Upd.refl _ _).alloc _
        have hmA := (H5.out.2.1.keep hur (fun h => h)).keep hua (fun h => h)
        have hk9 := H.out.2.2.2.2.2.2
        have hlok := hmA.look1 (x := (a : Int)) (by omega) (by omega)
        have hgt := H5.out.2.2.2.2 a
        obtain ⟨cnt, hcnt⟩ : ∃ cnt, cnt = (f (a : Int)).getD 0 := ⟨_, rfl⟩
        rw [← hcnt] at hlok hgt
        have htk : (thereL kindI 11 k F O).take (p + 1) = (thereL kindI 11 k F O).take p ++ [a] := by rw [List.take_add_one, hx1]; rfl
        obtain ⟨L, hL⟩ : ∃ L, L = ((thereL kindI 11 k F O).take p).filter (waitsB k F O) := ⟨_, rfl⟩
        rw [← hL] at hs9
        have hLl : L.length ≤ 1000 := by
          have h1 := List.length_filter_le (waitsB k F O) ((thereL kindI 11 k F O).take p)
          rw [List.length_take] at h1
          rw [hL]; omega
        have hs10 := Lib.hid (hs9.keep hua (fun _ _ h => h))
        have HP := Lib.hid (And.intro hx4 (And.intro hx1c (And.intro hbr (And.intro hf9 (And.intro htk (And.intro hL (And.intro hLl (And.intro hx2 hua))))))))
        have hp9 : p < 1000 := by omega
        clear hck hc1 hlk hll hhd hx0 hx1 hx2 hslr hx4 hx1c hxs hA hua hmA htk hL hLl hs9 hbr hf9 hk9 ha hur hcnt
        by_cases hz0 : cnt = 0
        · subst hz0
          have hwb := Lib.hid (hgt.1 rfl)
          obtain ⟨i0, z0, hi0, hz0, hzs0, hsz0, hby0⟩ := infoRowI
          have HI := Lib.hid (And.intro hi0 (And.intro hz0 (And.intro hzs0 (And.intro hsz0 hby0))))
          clear hi0 hz0 hzs0 hsz0 hby0 hgt
          go_wp2_with (first
            | (refine wpList_store_new rfl _ _ _ rfl _ _ _ rfl rfl (by rw [HP.out.1]; rfl) hsi.out HP.out.2.1 ?_)
            | (refine wpList_load_mid rfl _ _ rfl _ _ rfl _ _ rP Tryz.underlying39 rfl hsi.out ?_)
            | (refine wpList_load_mid rfl _ _ rfl _ _ rfl _ _ rA Tryz.underlying39 rfl hsi.out ?_)
            | (refine wpList_row rfl 77 39 _ rfl 4 (by decide) Tryz.underlying77 ⟨i0, z0, HI.out.1, HI.out.2.1, HI.out.2.2.1, HI.out.2.2.2.1⟩ (by decide) xs rfl HP.out.1 ?_)
            | (at_builtin; refine wpList_append_one rfl _ _ _ rfl i0 z0 32 Tryz.underlying77 HI.out.1 HI.out.2.1 HI.out.2.2.2.1 HI.out.2.2.2.2 HI.out.2.2.1 (by decide) rfl hs10.out xs (by rfl) HP.out.1 HP.out.2.1 (by unfold maxLen; have := HP.out.2.2.2.2.2.2.1; omega) (by have := HP.out.2.2.2.2.2.2.1; omega) ?_; intro v' w11 hs11 hu11 hbf)
            | fail)
          replace hu11 : Upd (ownS u9) (wr.alloc (.cells xs.toArray 39)) w11 := hu11
          replace hbf : blockFrom (wr.alloc (.cells xs.toArray 39)) u9 v' := hbf
          have HZ2 := Lib.hid (And.intro hs11 (And.intro hu11 hbf))
          clear hs11 hu11 hbf rA rP cA hlok
          go_roundw
          case rel =>
            obtain ⟨hs11, hu11, hbf⟩ := HZ2.out
            obtain ⟨hx4, hx1c, hbr, hf9, htk, hL, hLl, hx2, hua⟩ := HP.out
            have hflt : ((thereL kindI 11 k F O).take (p + 1)).filter (waitsB k F O) = L ++ [a] := by rw [htk, List.filter_append, ← hL]; simp [hwb.out]
            refine ⟨p + 1, by omega, by go_num, ?_, ?_, hbf.ge (by have := hbr.size; simp; omega) hf9⟩
            · exact below_upd (hbr.alloc hbr.size _) hu11 (Nat.le_refl _) (fun j hj => hf9 j hj)
            · rw [hflt, List.length_append]
              have e : (waitCells F O (L ++ [a])).flatten = (waitCells F O L).flatten ++ xs := by simp [waitCells, hx2]
              rw [e]
              exact hs11
          case measure => simp [intOf]; omega
        · have hwb : Hid (waitsB k F O a = false) := by
            show _ = _
            cases hq : waitsB k F O a with
            | false => rfl
            | true => exact absurd (hgt.2 hq) hz0
          have hq1 : (((cnt : Nat) : Int) == 0) = false := by simpa using hz0
          clear hgt hz0
          go_wp2_with (first
            | (refine wpList_store_new rfl _ _ _ rfl _ _ _ rfl rfl (by rw [HP.out.1]; rfl) hsi.out HP.out.2.1 ?_)
            | (refine wpList_load_mid rfl _ _ rfl _ _ rfl _ _ rP Tryz.underlying39 rfl hsi.out ?_)
            | fail)
          clear rA rP cA hlok
          go_roundw
          case rel =>
            obtain ⟨hx4, hx1c, hbr, hf9, htk, hL, hLl, hx2, hua⟩ := HP.out
            have hflt : ((thereL kindI 11 k F O).take (p + 1)).filter (waitsB k F O) = L := by rw [htk, List.filter_append, ← hL]; simp [hwb.out]
            refine ⟨p + 1, by omega, by go_num, hbr.alloc hbr.size _, ?_, hf9⟩
            rw [hflt]
            exact hs10.out
          case measure => simp [intOf]; omega
      · obtain rfl : p = cs.length := by omega
        have hall : (thereL kindI 11 k F O).take cs.length = thereL kindI 11 k F O := by rw [HC.out.2.2.2.1]; exact List.take_length
        rw [hall] at hs9
        have HE := Lib.hid (And.intro hs9 (And.intro hf9 hbr))
        clear hs9 hf9 hbr hur hall
        go_wp2
        go_ret2
        obtain ⟨hs9, hf9, hbr⟩ := HE.out
        refine ⟨_, rfl, _, fun j hj => H.out.2.1 j (HX.out.1 j hj.1.1), H5.out.1.beside hbr, hs9, fun g hg => ⟨fun h => ?_, ?_⟩, H5.out.2.2.2.1.trans ((Upd.of_below (S := S) hbr))⟩
        · have h1 := hs9.lt hg
          have h2 := hf9 g hg
          exact h.2 ⟨h2, h1⟩
        · have h2 := hf9 g hg
          have := HS5.out
          omega
  · exact absurd (H.out.2.2.2.1 i hi) hnf
def ctB (j x : Nat) : Bk := certB j 0 x 1 0 0
def faI (j x : Nat) : List Int := [(j : Int), 0, (x : Int), 1, 1, 0, 0, 0, 0, 0, 0, 0, 0]
def faB (j x : Nat) : Bk := sectF (faI j x)
theorem ctMay {j x : Nat} (h1 : j ≤ 1099511627776) (h2 : x ≤ 4095) : mayT [(j : Int), ((0 : Nat) : Int), (x : Int), ((1 : Nat) : Int), ((0 : Nat) : Int), ((0 : Nat) : Int)] = true := by
  rw [mayT_iff]; omega
theorem ctB_get {j x : Nat} (h1 : j ≤ 1099511627776) (h2 : x ≤ 4095) : okT (ctB j x) = true ∧ numsT (ctB j x) = [j, 0, x, 1, 0, 0] := cert_get (ctMay h1 h2)
theorem ctB_ne {j x : Nat} (h1 : j ≤ 1099511627776) (h2 : x ≤ 4095) : ctB j x ≠ zB := sect_ne (by decide) (by decide) (cert_fits (by omega) (by omega) (by omega) (by omega) (by omega) (by omega))
theorem faMay {j x : Nat} (h1 : j ≤ 1099511627776) (h2 : x ≤ 4095) : mayF (faI j x) = true := by
  have h3 : spanB (x : Int) 1 = true := by unfold spanB; simp; omega
  have h4 : secB 1 [0, 0, 0, 0, 0, 0, 0, 0] = true := by decide
  have e : mayF (faI j x) = (withinB bndF (faI j x) && spanB (x : Int) 1 && secB 1 [0, 0, 0, 0, 0, 0, 0, 0]) := rfl
  rw [e, h3, h4]
  simp [withinB, bndF, inB, faI]
  omega
theorem faB_get {j x : Nat} (h1 : j ≤ 1099511627776) (h2 : x ≤ 4095) : okF (faB j x) = true ∧ numsF (faB j x) = [j, 0, x, 1, 1, 0, 0, 0, 0, 0, 0, 0, 0] := by
  have hf := (mayF_fits (xs := faI j x) rfl (faMay h1 h2)).2
  obtain ⟨g1, g2⟩ := sect_ok (k := 6) (by decide) hf (mayF (natsI (numsF (faB j x))))
  have h3 : numsF (faB j x) = [j, 0, x, 1, 1, 0, 0, 0, 0, 0, 0, 0, 0] := g2
  refine ⟨?_, h3⟩
  unfold okF
  rw [show okGet (faB j x) 6 [6, 6, 2, 2, 1, 3, 3, 3, 3, 3, 3, 3, 3] (mayF (natsI (numsF (faB j x)))) = mayF (natsI (numsF (faB j x))) from g1, h3]
  exact faMay h1 h2
theorem faB_ne {j x : Nat} (h1 : j ≤ 1099511627776) (h2 : x ≤ 4095) : faB j x ≠ zB := sect_ne (by decide) (by decide) (mayF_fits rfl (faMay h1 h2)).2
theorem putInto {base n j : Nat} {y : Bk} {F : List Bk} {mb : Bool} (hm : mb = true) (hj : j < n) (hz : F.getD (base + j) zB = zB) (hy : y ≠ zB) : logPutR mb base n (j : Int) y F [] [] = ⟨F.set (base + j) y, [], [], 0⟩ := by
  unfold logPutR
  rw [if_neg (by rw [hm]; simp), if_neg (by omega), putR_go, Int.toNat_natCast, hz, if_neg (fun e => hy e.symm), if_neg (by simp)]
def upto (A i : Nat) (j : Nat) : Bool := decide (j < i) && (A / 2 ^ j % 2 == 1)
theorem upto_zero (A j : Nat) : upto A 0 j = false := by simp [upto]
theorem upto_yes {A i : Nat} (h : A / 2 ^ i % 2 = 1) (j : Nat) : upto A (i + 1) j = (upto A i j || j == i) := by
  unfold upto
  by_cases e : j = i
  · subst e; simp [h]
  · have : decide (j < i + 1) = decide (j < i) := by
      by_cases h2 : j < i
      · simp [h2]; omega
      · simp [h2]; omega
    rw [this]; simp [e]
theorem upto_no {A i : Nat} (h : A / 2 ^ i % 2 ≠ 1) (j : Nat) : upto A (i + 1) j = upto A i j := by
  unfold upto
  by_cases e : j = i
  · subst e; simp [h]
  · have : decide (j < i + 1) = decide (j < i) := by
      by_cases h2 : j < i
      · simp [h2]; omega
      · simp [h2]; omega
    rw [this]
def W12 (F : List Bk) (ra rb rc : Nat → Bool) : Prop := F.length = 49 ∧ ∀ j, j < 12 → F.getD (11 + j) zB = (if ra j then thB j (j % 9) else zB) ∧ F.getD (23 + j) zB = (if rb j then ctB j (j % 9) else zB) ∧ F.getD (35 + j) zB = (if rc j then faB j (j % 9) else zB)
theorem getD_set {F : List Bk} {s t : Nat} {y : Bk} (hs : s < F.length) : (F.set s y).getD t zB = if t = s then y else F.getD t zB := by
  rw [List.getD_eq_getElem?_getD]
  by_cases e : t = s
  · subst e; rw [List.getElem?_set_self hs, if_pos rfl]; rfl
  · rw [List.getElem?_set_ne (fun h => e h.symm), if_neg e, List.getD_eq_getElem?_getD]
theorem W12.set0 {F : List Bk} {ra rb rc ra' : Nat → Bool} (h : W12 F ra rb rc) {i : Nat} (hi : i < 12) (hr : ∀ j, ra' j = (ra j || j == i)) : W12 (F.set (11 + i) (thB i (i % 9))) ra' rb rc := by
  obtain ⟨hl, h⟩ := h
  refine ⟨by simpa using hl, fun j hj => ?_⟩
  obtain ⟨h1, h2, h3⟩ := h j hj
  rw [getD_set (t := 11 + j) (s := 11 + i) (by omega), getD_set (t := 23 + j) (s := 11 + i) (by omega), getD_set (t := 35 + j) (s := 11 + i) (by omega), if_neg (show ¬ 23 + j = 11 + i by omega), if_neg (show ¬ 35 + j = 11 + i by omega), hr]
  refine ⟨?_, h2, h3⟩
  by_cases e : j = i
  · subst e; simp
  · rw [if_neg (by omega), h1]; simp [e]
theorem W12.set1 {F : List Bk} {ra rb rc rb' : Nat → Bool} (h : W12 F ra rb rc) {i : Nat} (hi : i < 12) (hr : ∀ j, rb' j = (rb j || j == i)) : W12 (F.set (23 + i) (ctB i (i % 9))) ra rb' rc := by
  obtain ⟨hl, h⟩ := h
  refine ⟨by simpa using hl, fun j hj => ?_⟩
  obtain ⟨h1, h2, h3⟩ := h j hj
  rw [getD_set (t := 11 + j) (s := 23 + i) (by omega), getD_set (t := 23 + j) (s := 23 + i) (by omega), getD_set (t := 35 + j) (s := 23 + i) (by omega), if_neg (show ¬ 11 + j = 23 + i by omega), if_neg (show ¬ 35 + j = 23 + i by omega), hr]
  refine ⟨h1, ?_, h3⟩
  by_cases e : j = i
  · subst e; simp
  · rw [if_neg (by omega), h2]; simp [e]
theorem W12.set2 {F : List Bk} {ra rb rc rc' : Nat → Bool} (h : W12 F ra rb rc) {i : Nat} (hi : i < 12) (hr : ∀ j, rc' j = (rc j || j == i)) : W12 (F.set (35 + i) (faB i (i % 9))) ra rb rc' := by
  obtain ⟨hl, h⟩ := h
  refine ⟨by simpa using hl, fun j hj => ?_⟩
  obtain ⟨h1, h2, h3⟩ := h j hj
  rw [getD_set (t := 11 + j) (s := 35 + i) (by omega), getD_set (t := 23 + j) (s := 35 + i) (by omega), getD_set (t := 35 + j) (s := 35 + i) (by omega), if_neg (show ¬ 11 + j = 35 + i by omega), if_neg (show ¬ 23 + j = 35 + i by omega), hr]
  refine ⟨h1, h2, ?_⟩
  by_cases e : j = i
  · subst e; simp
  · rw [if_neg (by omega), h3]; simp [e]
theorem W12.congr {F : List Bk} {ra rb rc ra' rb' rc' : Nat → Bool} (h : W12 F ra rb rc) (ha : ∀ j, ra' j = ra j) (hb : ∀ j, rb' j = rb j) (hc : ∀ j, rc' j = rc j) : W12 F ra' rb' rc' := by
  rw [funext ha, funext hb, funext hc]; exact h
theorem devL_W12 : W12 (devL 12) (fun _ => false) (fun _ => false) (fun _ => false) := by
  refine ⟨by rw [devL_len], fun j hj => ?_⟩
  have z : ∀ s, s ≠ 1 → s < 49 → (devL 12).getD s zB = zB := fun s h1 h2 => by rw [List.getD_eq_getElem?_getD, devL_zero 12 s h1 (by omega)]; rfl
  simp only [Bool.false_eq_true, if_false]
  exact ⟨z _ (by omega) (by omega), z _ (by omega) (by omega), z _ (by omega) (by omega)⟩
section
variable {S : Nat → Prop} {w : World} {li lc lf d : Nat} {F : List Bk} {ra rb rc : Nat → Bool}
def WPut (S : Nat → Prop) (w : World) (li lc lf d : Nat) (ra rb rc : Nat → Bool) (e : Ending) (w' : World) : Prop :=
  e = .returned (.int .i64 0) ∧ ∃ F', L17 S w' li lc lf d 12 F' [] [] ∧ W12 F' ra rb rc ∧ Upd S w w'
theorem put12I (h : L17 S w li lc lf d 12 F [] []) (hW : W12 F ra rb rc) {i : Nat} (hi : i < 12) (hr : ra i = false) {ra' : Nat → Bool} (hr' : ∀ j, ra' j = (ra j || j == i))
    (r : Int) (hr9 : r = ((i % 9 : Nat) : Int)) : Calls Tryz.prog 23 #[ptr li, .agg #[.int .i64 (i : Int), .int .i64 (i : Int), .int .i64 r, .int .i64 1]] w (WPut S w li lc lf d ra' rb rc) := by
  subst hr9
  exact (l17_put h (by simp) i i ((i % 9 : Nat) : Int) 1).mono fun e w' ho => by
    change LOut S w li lc lf d 12 (logPutR (mayI [(i : Int), (i : Int), ((i % 9 : Nat) : Int), ((1 : Nat) : Int)]) 11 12 (i : Int) (thB i (i % 9)) F [] []) e w' at ho
    rw [putInto (thMay (x := i % 9) (by omega) (by omega)) hi (by have := (hW.2 i hi).1; rw [hr] at this; exact this) (thB_ne (id := i) (x := i % 9) (by omega) (by omega))] at ho
    obtain ⟨he, hl, hu⟩ := ho
    exact ⟨he, _, hl, hW.set0 hi hr', hu⟩
theorem put12C (h : L17 S w li lc lf d 12 F [] []) (hW : W12 F ra rb rc) {i : Nat} (hi : i < 12) (hr : rb i = false) {rb' : Nat → Bool} (hr' : ∀ j, rb' j = (rb j || j == i))
    (r : Int) (hr9 : r = ((i % 9 : Nat) : Int)) : Calls Tryz.prog 24 #[ptr lc, .agg #[.int .i64 (i : Int), .int .i64 0, .int .i64 r, .int .i64 1, .int .i64 0, .int .i64 0]] w (WPut S w li lc lf d ra rb' rc) := by
  subst hr9
  exact (l17_putC h (by simp) i 0 ((i % 9 : Nat) : Int) 1 0 0).mono fun e w' ho => by
    change LOut S w li lc lf d 12 (logPutR (mayT [(i : Int), ((0 : Nat) : Int), ((i % 9 : Nat) : Int), ((1 : Nat) : Int), ((0 : Nat) : Int), ((0 : Nat) : Int)]) 23 12 (i : Int) (ctB i (i % 9)) F [] []) e w' at ho
    rw [putInto (ctMay (x := i % 9) (by omega) (by omega)) hi (by have := (hW.2 i hi).2.1; rw [hr] at this; exact this) (ctB_ne (j := i) (x := i % 9) (by omega) (by omega))] at ho
    obtain ⟨he, hl, hu⟩ := ho
    exact ⟨he, _, hl, hW.set1 hi hr', hu⟩
theorem put12F (h : L17 S w li lc lf d 12 F [] []) (hW : W12 F ra rb rc) {i : Nat} (hi : i < 12) (hr : rc i = false) {rc' : Nat → Bool} (hr' : ∀ j, rc' j = (rc j || j == i))
    (r : Int) (hr9 : r = ((i % 9 : Nat) : Int)) : Calls Tryz.prog 25 #[ptr lf, .agg #[.int .i64 (i : Int), .int .i64 0, .int .i64 r, .int .i64 1, .int .i64 1, .int .i64 0, .int .i64 0, .int .i64 0, .int .i64 0, .int .i64 0, .int .i64 0, .int .i64 0, .int .i64 0]] w (WPut S w li lc lf d ra rb rc') := by
  subst hr9
  exact (l17_putF h (by simp) i [0, ((i % 9 : Nat) : Int), 1, 1, 0, 0, 0, 0, 0, 0, 0, 0] rfl).mono fun e w' ho => by
    change LOut S w li lc lf d 12 (logPutR (mayF (faI i (i % 9))) 35 12 (i : Int) (faB i (i % 9)) F [] []) e w' at ho
    rw [putInto (faMay (j := i) (x := i % 9) (by omega) (by omega)) hi (by have := (hW.2 i hi).2.2; rw [hr] at this; exact this) (faB_ne (j := i) (x := i % 9) (by omega) (by omega))] at ho
    obtain ⟨he, hl, hu⟩ := ho
    exact ⟨he, _, hl, hW.set2 hi hr', hu⟩
end
theorem cdI12 {F : List Bk} {ra rb rc : Nat → Bool} (h : W12 F ra rb rc) {j : Nat} (hj : j < 12) : getCd kindI (curB F [] (11 + j)) j = if ra j then 0 else 14 := by
  rw [curB_nil, (h.2 j hj).1]
  cases ra j with
  | true =>
    obtain ⟨g1, g2⟩ := thB_get (id := j) (x := j % 9) (by omega) (by omega)
    have hn : kindI.nm (thB j (j % 9)) = (j : Int) := by show (((numsI (thB j (j % 9))).getD 0 0 : Nat) : Int) = _; rw [g2]; rfl
    simp only [if_true]
    unfold getCd
    rw [if_neg (thB_ne (by omega) (by omega)), if_pos ⟨g1, hn⟩]
  | false => exact if_pos rfl
theorem cdC12 {F : List Bk} {ra rb rc : Nat → Bool} (h : W12 F ra rb rc) {j : Nat} (hj : j < 12) : getCd kindC (curB F [] (23 + j)) j = if rb j then 0 else 14 := by
  rw [curB_nil, (h.2 j hj).2.1]
  cases rb j with
  | true =>
    obtain ⟨g1, g2⟩ := ctB_get (j := j) (x := j % 9) (by omega) (by omega)
    have hn : kindC.nm (ctB j (j % 9)) = (j : Int) := by show (((numsT (ctB j (j % 9))).getD 0 0 : Nat) : Int) = _; rw [g2]; rfl
    simp only [if_true]
    unfold getCd
    rw [if_neg (ctB_ne (by omega) (by omega)), if_pos ⟨g1, hn⟩]
  | false => exact if_pos rfl
theorem cdF12 {F : List Bk} {ra rb rc : Nat → Bool} (h : W12 F ra rb rc) {j : Nat} (hj : j < 12) : getCd kindF (curB F [] (35 + j)) j = if rc j then 0 else 14 := by
  rw [curB_nil, (h.2 j hj).2.2]
  cases rc j with
  | true =>
    obtain ⟨g1, g2⟩ := faB_get (j := j) (x := j % 9) (by omega) (by omega)
    have hn : kindF.nm (faB j (j % 9)) = (j : Int) := by show (((numsF (faB j (j % 9))).getD 0 0 : Nat) : Int) = _; rw [g2]; rfl
    simp only [if_true]
    unfold getCd
    rw [if_neg (faB_ne (by omega) (by omega)), if_pos ⟨g1, hn⟩]
  | false => exact if_pos rfl
theorem fine12 {F : List Bk} {ra rb rc : Nat → Bool} (h : W12 F ra rb rc) : fineAll kindI zsI 11 12 F [] ∧ fineAll kindC zsC (11 + 12) 12 F [] ∧ fineAll kindF zsF (11 + 12 + 12) 12 F [] := by
  refine ⟨fun j hj => ?_, fun j hj => ?_, fun j hj => ?_⟩
  · rw [fine_cur hj, cdI12 h hj]; split <;> decide
  · rw [fine_cur hj, show 11 + 12 + j = 23 + j from rfl, cdC12 h hj]; split <;> decide
  · rw [fine_cur hj, show 11 + 12 + 12 + j = 35 + j from rfl, cdF12 h hj]; split <;> decide
theorem waitL12 {F : List Bk} {ra rb rc : Nat → Bool} (h : W12 F ra rb rc) : waitL 12 F [] = (List.range 12).filter fun j => ra j && (!rb j && !rc j) := by
  unfold waitL thereL
  rw [List.filter_filter]
  refine List.filter_congr fun j hj => ?_
  have hj := List.mem_range.1 hj
  rw [cdI12 h hj]
  unfold waitsB headsC headsF
  rw [thereL_count, thereL_count, show 11 + 12 + j = 23 + j from rfl, show 11 + 12 + 12 + j = 35 + j from rfl, cdC12 h hj, cdF12 h hj]
  cases ra j <;> cases rb j <;> cases rc j <;> simp [hj]
theorem cells12 {F : List Bk} {ra rb rc : Nat → Bool} (h : W12 F ra rb rc) {l : List Nat} (hl : ∀ j ∈ l, j < 12 ∧ ra j = true) : waitCells F [] l = l.map fun (j : Nat) => intC j j ((j % 9 : Nat) : Int) 1 := by
  refine List.map_congr_left fun j hj => ?_
  obtain ⟨h1, h2⟩ := hl j hj
  rw [curB_nil, (h.2 j h1).1, h2]
  show ints (natsI (numsI (thB j (j % 9)))) = _
  rw [(thB_get (id := j) (x := j % 9) (by omega) (by omega)).2]; rfl
end Go.Proofs.YtnadilfobmgebaaGreatDoor
