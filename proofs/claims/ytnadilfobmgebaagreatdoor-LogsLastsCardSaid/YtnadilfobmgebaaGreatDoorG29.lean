/- A log: All. The log of intents: its kind of things; Next. Logs of a device, call by call. The chapter's example of the logs (lavabolaw17.awake). -/
import Derived.Test.YtnadilfobmgebaaGreatDoorG28
import Derived.Test.YtnadilfobmgebaaGreatDoorG22
import Derived.Deep.LoopGhost
import Derived.Test.YtnadilfobmgebaaGreatDoorG26
namespace Go.Proofs.YtnadilfobmgebaaGreatDoor
open Go Go.RowKit
def allTo (K : Kind) (zs : List Value) (base n : Nat) (F : List Bk) (O : List (Nat × Bk)) (i : Nat) : List (List Value) := ((List.range i).filter fun j => (logGetR K zs base n (j : Nat) F O []).2.1 == 0).map fun j => (logGetR K zs base n (j : Nat) F O []).1
def fine (K : Kind) (zs : List Value) (base n : Nat) (F : List Bk) (O : List (Nat × Bk)) (j : Nat) : Prop := (logGetR K zs base n (j : Nat) F O []).2.1 = 0 ∨ (logGetR K zs base n (j : Nat) F O []).2.1 = 14
theorem allTo_hit {K : Kind} {zs : List Value} {base n : Nat} {F : List Bk} {O : List (Nat × Bk)} {i : Nat} (h : (logGetR K zs base n (i : Nat) F O []).2.1 = 0) : allTo K zs base n F O (i + 1) = allTo K zs base n F O i ++ [(logGetR K zs base n (i : Nat) F O []).1] := by
  simp [allTo, List.range_succ, h]
theorem allTo_miss {K : Kind} {zs : List Value} {base n : Nat} {F : List Bk} {O : List (Nat × Bk)} {i : Nat} (h : (logGetR K zs base n (i : Nat) F O []).2.1 ≠ 0) : allTo K zs base n F O (i + 1) = allTo K zs base n F O i := by
  simp [allTo, List.range_succ, h]
theorem allTo_len {K : Kind} {zs : List Value} {base n : Nat} {F : List Bk} {O : List (Nat × Bk)} (i : Nat) : (allTo K zs base n F O i).length ≤ i := by
  have := List.length_filter_le (fun j => (logGetR K zs base n (j : Nat) F O []).2.1 == 0) (List.range i)
  simpa [allTo] using this
theorem logGetR_plan {K : Kind} {zs : List Value} {base n : Nat} {F : List Bk} {O : List (Nat × Bk)} (i : Int) : (logGetR K zs base n i F O []).2.2 = [] := by
  unfold logGetR
  split <;> try rfl
  split <;> try rfl
  split <;> try rfl
  split <;> rfl
theorem logGetR_cells {K : Kind} {zs : List Value} {base n k : Nat} {F : List Bk} {O : List (Nat × Bk)} (hK : ∀ v : Bk, v.length = 64 → (K.ds v).length = k ∧ ∀ u ∈ K.ds v, u.oneCell' = true) (hz : zs.length = k ∧ ∀ u ∈ zs, u.oneCell' = true) (hc : ∀ s, (curB F O s).length = 64) (i : Int) :
    (logGetR K zs base n i F O []).1.length = k ∧ ∀ u ∈ (logGetR K zs base n i F O []).1, u.oneCell' = true := by
  unfold logGetR
  split
  · exact hz
  · split
    · exact hz
    · split
      · exact hz
      · split
        · exact hK _ (hc _)
        · exact hz
def AllAt (S : Nat → Prop) (w w' : World) (b _l : Nat) (F : List Bk) (O : List (Nat × Bk)) (te k : Nat) (v : Value) (cs : List (List Value)) : Prop :=
  ∃ T : Nat → Prop, (∀ j, T j → S j) ∧ (∀ j, w'.heap.size ≤ j → T j) ∧ Dv T w' b F O [] ∧ Sl w' te k v cs.length cs.flatten ∧ (∀ g, v.ownBlock = some g → ¬ T g) ∧ From w.heap.size v ∧ Upd S w w'
def AllOut (S : Nat → Prop) (w : World) (b l : Nat) (F : List Bk) (O : List (Nat × Bk)) (te k : Nat) (K : Kind) (zs : List Value) (base n : Nat) (e : Ending) (w' : World) : Prop :=
  ((∀ j, j < n → fine K zs base n F O j) ∧ ∃ v, e = .returned (.tuple #[v, .int .i64 0]) ∧ AllAt S w w' b l F O te k v (allTo K zs base n F O n)) ∨
  (∃ i, i < n ∧ (∀ j, j < i → fine K zs base n F O j) ∧ ¬ fine K zs base n F O i ∧ e = .returned (.tuple #[.slice none 0 0, .int .i64 (logGetR K zs base n (i : Nat) F O []).2.1]) ∧ Dv S w' b F O [] ∧ Upd S w w')
theorem infoRowI : ∃ i z, Tryz.prog.info? 39 = some i ∧ i.zero = some z ∧ z.cells.size = 4 ∧ i.size = 4 ∧ i.bytes = 32 := by
  have h : (Tryz.prog.info? 39).map (fun i => (i.zero.map (·.cells.size), i.size, i.bytes)) = some (some 4, 4, 32) := by kernel_rfl
  obtain ⟨i, hi, h⟩ := Option.map_eq_some_iff.1 h
  simp only [Prod.mk.injEq] at h
  obtain ⟨h1, h2, h3⟩ := h
  obtain ⟨z, hz, hs⟩ := Option.map_eq_some_iff.1 h1
  exact ⟨i, z, hi, hz, hs, h2, h3⟩
set_option maxRecDepth 100000 in
set_option maxHeartbeats 4000000 in
theorem allI_log {S : Nat → Prop} {w : World} {l b base n fi : Nat} {F : List Bk} {O : List (Nat × Bk)} (hl : LogI w l b base n fi) (hd : Dv S w b F O []) (hn : ∀ j, w.heap.size ≤ j → S j) (hSl : ¬ S l) (hN : Nib w)
    (hSN : ¬ S 0) (hfi : TellsI fi) (hbn : base + n ≤ F.length) (K : Kind)
    (hK : ∀ v : Bk, v.length = 64 → (K.ok v = true → K.cd v = 0) ∧ (K.ok v = false → K.cd v ≠ 0) ∧ (K.ds v).length = 4 ∧ (∀ u ∈ K.ds v, u.oneCell' = true) ∧ (K.ds v)[0]? = some (.int .i64 (K.nm v)))
    (hget : ∀ W v, v.length = 64 → Nib W → Calls Tryz.prog 16 #[.agg (bkC v).toArray] W (GetPost W (K.ok v) (K.ds v) [Value.int .i64 0, Value.int .i64 0, Value.int .i64 0, Value.int .i64 0] (K.cd v))) :
    Calls Tryz.prog 64 #[.pointer (some ⟨l, 0, none⟩)] w (AllOut S w b l F O 39 4 K [Value.int .i64 0, Value.int .i64 0, Value.int .i64 0, Value.int .i64 0] base n) := by
  have hfl := hd.good.fl
  obtain ⟨-, -, c2, -⟩ := hl.c
  have H := Lib.hid (And.intro hfi (And.intro hK (And.intro hget (And.intro hl (And.intro hd (And.intro hn (And.intro hSl (And.intro hN hSN))))))))
  clear hl hd hn hSl hN hSN hfi hK hget
  go_enter Tryz.func64, Tryz.ntmps64
  go_wp2
  go_step3
  go_wp2
  go_step3
  go_wp2
  go_loopw [4, 5, 15] (fun s4 s5 s15 wr => ∃ i : Nat, i ≤ n ∧ s15 = .int .i64 i ∧ s5 = .int .i64 0 ∧ (∀ j, j < i → fine K [Value.int .i64 0, Value.int .i64 0, Value.int .i64 0, Value.int .i64 0] base n F O j) ∧ AllAt S w wr b l F O 39 4 s4 (allTo K [Value.int .i64 0, Value.int .i64 0, Value.int .i64 0, Value.int .i64 0] base n F O i)) (fun _ _ s15 _ => n - (intOf s15).toNat)
  case atStart => exact ⟨0, Nat.zero_le _, rfl, rfl, fun j h => by omega, S, fun _ h => h, H.out.2.2.2.2.2.1, H.out.2.2.2.2.1, Sl.nil _ _ _, (fun g h => by cases h), From.nil _ _ _, Upd.refl _ _⟩
  case round =>
    obtain ⟨i, hi, rfl, rfl, hfine, T, hTS, hTn, hdT, hsl, hown, hfrom, hU⟩ := hrel
    obtain ⟨hfi, hK, hget, hl, hd, hn, hSl, hN, hSN⟩ := H.out
    have HF := Lib.hid hfine
    clear hfine
    by_cases hlt : i < n
    · have hTl : ¬ T l := fun h => hSl (hTS _ h)
      have hTN : ¬ T 0 := fun h => hSN (hTS _ h)
      have hlr := hl.keep hU hSl
      have hNr := hN.keep hU hSN
      have HX := Lib.hid (And.intro hTS (And.intro hTn (And.intro hdT (And.intro hsl (And.intro hown (And.intro hfrom hU))))))
      clear hTS hTn hdT hsl hown hfrom hU hl hd hn hSl hN hSN
      go_wp2_with fail
      refine (getI_log hlr HX.out.2.2.1 HX.out.2.1 hTl hNr hTN hfi hbn (i : Int) K hK hget).mono ?_
      rintro e w9 ⟨rfl, hd9, hU9⟩
      rw [logGetR_plan] at hd9
      have hcells := logGetR_cells (K := K) (zs := [Value.int .i64 0, Value.int .i64 0, Value.int .i64 0, Value.int .i64 0]) (base := base) (n := n) (k := 4) (F := F) (O := O) (fun v hv => ⟨(hK v hv).2.2.1, (hK v hv).2.2.2.1⟩) ⟨rfl, by intro u hu; simp at hu; subst hu; rfl⟩ (fun s => curB_len hd9.good s) (i : Nat)
      obtain ⟨rs, cd, hrs, hcd⟩ : ∃ (rs : List Value) (cd : Int), (logGetR K [Value.int .i64 0, Value.int .i64 0, Value.int .i64 0, Value.int .i64 0] base n (i : Nat) F O []).1 = rs ∧ (logGetR K [Value.int .i64 0, Value.int .i64 0, Value.int .i64 0, Value.int .i64 0] base n (i : Nat) F O []).2.1 = cd := ⟨_, _, rfl, rfl⟩
      rw [hrs, hcd]
      rw [hrs] at hcells
      have HR := Lib.hid (And.intro hrs (And.intro hcd hcells))
      have hsl9 := HX.out.2.2.2.1.keep hU9 HX.out.2.2.2.2.1
      have hU9' := HX.out.2.2.2.2.2.2.trans (hU9.mono (fun j _ h => HX.out.1 j h))
      have c29 := hU9.cellv (hlr.c.2.2.1) hTl
      have H9 := Lib.hid (And.intro hd9 (And.intro hsl9 (And.intro hU9' hU9.size)))
      clear hrs hcd hcells hd9 hsl9 hU9 hU9' hlr hNr hTl hTN hfi hK hget
      have hsi : Hid ((Tryz.prog.info? 39).map (·.size) = some rs.length) := by show _ = _; rw [HR.out.2.2.1]; exact infoIn
      have hA := heap_alloc_last w9 (.cells rs.toArray 39) rfl
      have rA := range_of_block hA
      have hua : Upd (fun _ => False) w9 (w9.alloc (.cells rs.toArray 39)) := (Upd.refl _ _).alloc _
      have HA := Lib.hid hua
      clear hA hua
      by_cases hc0 : cd = 0
      · subst hc0
        have hln : Hid ((allTo K [Value.int .i64 0, Value.int .i64 0, Value.int .i64 0, Value.int .i64 0] base n F O i).length ≤ i) := allTo_len i
        have hal : Hid (allTo K [Value.int .i64 0, Value.int .i64 0, Value.int .i64 0, Value.int .i64 0] base n F O (i + 1) = allTo K [Value.int .i64 0, Value.int .i64 0, Value.int .i64 0, Value.int .i64 0] base n F O i ++ [rs]) := by show _ = _; rw [allTo_hit HR.out.2.1, HR.out.1]
        have hfi2 : Hid (fine K [Value.int .i64 0, Value.int .i64 0, Value.int .i64 0, Value.int .i64 0] base n F O i) := .inl HR.out.2.1
        obtain ⟨i0, z0, hi0, hz0, hzs0, hsz0, hby0⟩ := infoRowI
        have hsl10 := Lib.hid (H9.out.2.1.keep HA.out (fun _ _ h => h))
        have HI := Lib.hid (And.intro hi0 (And.intro hz0 (And.intro hzs0 (And.intro hsz0 hby0))))
        clear hi0 hz0 hzs0 hsz0 hby0
        go_wp2_with (first
          | (refine wpList_store_new rfl _ _ _ rfl _ _ _ rfl rfl (by rw [HR.out.2.2.1]; rfl) hsi.out HR.out.2.2.2 ?_)
          | (refine wpList_load_mid rfl _ _ rfl _ _ rfl _ _ rA Tryz.underlying39 rfl hsi.out ?_)
          | (refine wpList_row rfl 77 39 _ rfl 4 (by decide) Tryz.underlying77 ⟨i0, z0, HI.out.1, HI.out.2.1, HI.out.2.2.1, HI.out.2.2.2.1⟩ (by decide) rs rfl HR.out.2.2.1 ?_)
          | (at_builtin; refine wpList_append_one rfl _ _ _ rfl i0 z0 32 Tryz.underlying77 HI.out.1 HI.out.2.1 HI.out.2.2.2.1 HI.out.2.2.2.2 HI.out.2.2.1 (by decide) rfl hsl10.out rs (by rfl) HR.out.2.2.1 HR.out.2.2.2 (by unfold maxLen; have := hln.out; omega) (by have := hln.out; omega) ?_; intro v' w11 hs11 hu11 hbf)
          | fail)
        replace hu11 : Upd (ownS u4) (w9.alloc (.cells rs.toArray 39)) w11 := hu11
        replace hbf : blockFrom (w9.alloc (.cells rs.toArray 39)) u4 v' := hbf
        have HZ := Lib.hid (And.intro hs11 (And.intro hu11 hbf))
        clear hs11 hu11 hbf rA c29
        go_roundw
        case rel =>
          obtain ⟨hs11, hu11, hbf⟩ := HZ.out
          obtain ⟨hd9, hsl9, hU9', hsz9⟩ := H9.out
          obtain ⟨hTS, hTn, hdT, hsl, hown, hfrom, hU⟩ := HX.out
          refine ⟨i + 1, by omega, by go_num, rfl, fun j hj => by
              by_cases e : j = i
              · subst e; exact hfi2.out
              · exact HF.out j (by omega), ?_⟩
          have hws : w9.heap.size < w11.heap.size := by have := hu11.size; simp at this; omega
          have hnew : ∀ g, v'.ownBlock = some g → u4.ownBlock = some g ∨ w9.heap.size < g := fun g hg => by
            rcases hbf with h | ⟨g', h, hle⟩
            · exact .inl (by rw [← h]; exact hg)
            · rw [h] at hg; cases hg; simp at hle; exact .inr (by omega)
          have hU11 : Upd S w9 w11 := (HA.out.mono (fun _ _ h => h.elim)).trans (hu11.mono (fun j _ h => H.out.2.2.2.2.2.1 j (hfrom j h)))
          refine ⟨fun j => T j ∧ v'.ownBlock ≠ some j, fun j h => hTS j h.1, fun j hj => ⟨hTn j (by omega), fun e => by have := hs11.lt e; omega⟩, ?_, ?_, fun g hg h => h.2 hg, ?_, ?_⟩
          · refine (((hd9.shrink (T := fun j => (T j ∧ j < w9.heap.size) ∧ u4.ownBlock ≠ some j) (fun j hj hl => ⟨⟨hj, hl⟩, fun e => hown j e hj⟩)).keep HA.out (fun _ _ h => h)).keep hu11 (fun j h e => h.2 e)).wide ?_
            rintro j ⟨⟨h1, h2⟩, h3⟩
            refine ⟨h1, fun e => ?_⟩
            rcases hnew j e with h | h
            · exact h3 h
            · omega
          · rw [hal.out, List.length_append, List.flatten_append]
            simpa using hs11
          · intro g hg
            rcases hnew g hg with h | h
            · exact hfrom g h
            · have := hU.size; omega
          · exact hU9'.trans hU11
        case measure => simp [intOf]; omega
      · have hq : (cd == 0) = false := by simpa using hc0
        have hal : Hid (allTo K [Value.int .i64 0, Value.int .i64 0, Value.int .i64 0, Value.int .i64 0] base n F O (i + 1) = allTo K [Value.int .i64 0, Value.int .i64 0, Value.int .i64 0, Value.int .i64 0] base n F O i) := allTo_miss (by rw [HR.out.2.1]; exact hc0)
        have HC0 := Lib.hid hc0
        clear hc0
        by_cases h14 : cd = 14
        · subst h14
          have hfi2 : Hid (fine K [Value.int .i64 0, Value.int .i64 0, Value.int .i64 0, Value.int .i64 0] base n F O i) := .inr HR.out.2.1
          clear hq
          go_wp2_with (first
            | (refine wpList_store_new rfl _ _ _ rfl _ _ _ rfl rfl (by rw [HR.out.2.2.1]; rfl) hsi.out HR.out.2.2.2 ?_)
            | fail)
          clear rA c29
          go_roundw
          case rel =>
            obtain ⟨hd9, hsl9, hU9', hsz9⟩ := H9.out
            obtain ⟨hTS, hTn, hdT, hsl, hown, hfrom, hU⟩ := HX.out
            refine ⟨i + 1, by omega, by go_num, rfl, fun j hj => by
                by_cases e : j = i
                · subst e; exact hfi2.out
                · exact HF.out j (by omega), ?_⟩
            rw [hal.out]
            exact ⟨T, hTS, fun j hj => hTn j (by have h1 := HA.out.size; omega), hd9.keep HA.out (fun _ _ h => h), hsl9.keep HA.out (fun _ _ h => h), hown, hfrom, hU9'.trans (HA.out.mono (fun _ _ h => h.elim))⟩
          case measure => simp [intOf]; omega
        · have hq2 : (cd == 14) = false := by simpa using h14
          have hnf : Hid (¬ fine K [Value.int .i64 0, Value.int .i64 0, Value.int .i64 0, Value.int .i64 0] base n F O i) := fun h => h.elim (fun e => HC0.out (by rw [← HR.out.2.1]; exact e)) (fun e => h14 (by rw [← HR.out.2.1]; exact e))
          have hq3 : (cd != 0) = true := by simp [bne, hq]
          clear h14
          go_wp2_with (first
            | (refine wpList_store_new rfl _ _ _ rfl _ _ _ rfl rfl (by rw [HR.out.2.2.1]; rfl) hsi.out HR.out.2.2.2 ?_)
            | fail)
          try rw [Exit.noGoto_ret]
          go_ret2
          obtain ⟨hd9, hsl9, hU9', hsz9⟩ := H9.out
          exact .inr ⟨i, hlt, HF.out, hnf.out, by rw [HR.out.2.1]; rfl, (hd9.keep HA.out (fun _ _ h => h)).wide HX.out.1, hU9'.trans (HA.out.mono (fun _ _ h => h.elim))⟩
    · obtain rfl : i = n := by omega
      have HX : Hid (AllAt S w wr b l F O 39 4 u4 (allTo K [Value.int .i64 0, Value.int .i64 0, Value.int .i64 0, Value.int .i64 0] base i F O i)) := ⟨T, hTS, hTn, hdT, hsl, hown, hfrom, hU⟩
      clear hTS hTn hdT hsl hown hfrom hU
      go_wp2
      try rw [Exit.noGoto_ret]
      go_ret2
      exact .inl ⟨HF.out, _, rfl, HX.out⟩
theorem infoIn_len {xs : List Value} (h : (Tryz.prog.info? 39).map (·.size) = some xs.length) : ∃ a b c d, xs = [a, b, c, d] := by
  rw [infoIn] at h
  injection h with h
  match xs, h with
  | [a, b, c, d], _ => exact ⟨a, b, c, d, rfl⟩
set_option maxRecDepth 100000 in
theorem tellsOpen1 : TellsI 101 := by
  refine ⟨fun _ _ => rfl, fun W a xs hx hl => ?_⟩
  obtain ⟨x0, x1, x2, x3, rfl⟩ := infoIn_len hl
  simp at hx
  subst hx
  go_enter Tryz.func101, Tryz.ntmps101
  go_wp2
  go_ret
  exact ⟨rfl, (Below.refl _ _).alloc (Nat.le_refl _) _⟩
def kindI : Kind := ⟨okI, fun v => ints (natsI (numsI v)), cdI, fun v => ((numsI v).getD 0 0 : Nat)⟩
abbrev zsI : List Value := [Value.int .i64 0, .int .i64 0, .int .i64 0, .int .i64 0]
theorem kindI_ok : ∀ v : Bk, v.length = 64 → (kindI.ok v = true → kindI.cd v = 0) ∧ (kindI.ok v = false → kindI.cd v ≠ 0) ∧ (kindI.ds v).length = 4 ∧ (∀ u ∈ kindI.ds v, u.oneCell' = true) ∧ (kindI.ds v)[0]? = some (.int .i64 (kindI.nm v)) := by
  intro v _
  refine ⟨fun h => if_pos h, fun h => ?_, by simp [kindI, natsI, numsI, numsAt_len], fun u hu => by simp only [kindI, ints, List.mem_map] at hu; obtain ⟨x, -, rfl⟩ := hu; rfl, rfl⟩
  show cdI v ≠ 0
  have h' : okGet v 4 [6, 6, 2, 2] (mayI (natsI (numsI v))) = false := h
  unfold cdI cdGet
  rw [h']
  simp
  split <;> decide
theorem kindI_get : ∀ W v, v.length = 64 → Nib W → Calls Tryz.prog 16 #[.agg (bkC v).toArray] W (GetPost W (kindI.ok v) (kindI.ds v) zsI (kindI.cd v)) := fun _W v hv hN => GetI_any hN v hv
abbrev intC (a b c d : Int) : List Value := [.int .i64 a, .int .i64 b, .int .i64 c, .int .i64 d]
theorem putI {S : Nat → Prop} {w : World} {l b base n fi : Nat} {F : List Bk} {O : List (Nat × Bk)} {P : List Int} (hl : LogI w l b base n fi) (hd : Dv S w b F O P) (hn : ∀ j, w.heap.size ≤ j → S j) (hSl : ¬ S l) (hN : Nib w)
    (hSN : ¬ S 0) (hfi : TellsI fi) (hbn : base + n ≤ F.length) (hO : O.length < 65000) (x1 x2 x3 x4 : Int) :
    Calls Tryz.prog 23 #[.pointer (some ⟨l, 0, none⟩), .agg (intC x1 x2 x3 x4).toArray] w (Out S w b (logPutR (mayI [x1, x2, x3, x4]) base n x1 (intentB x1.toNat x2.toNat x3.toNat x4.toNat) F O P)) :=
  putI_log hl hd hn hSl hN hSN hfi hbn hO (intC x1 x2 x3 x4) x1 rfl infoIn _ _ (sectB_len (by show 16 ≤ 59; decide)) (fun W hW => (PutI_any hW x1 x2 x3 x4).mono (fun e w' ⟨h, hb⟩ => by
    rcases h with ⟨h1, rfl⟩ | ⟨h1, rfl⟩
    · exact ⟨_, 0, .inl ⟨h1, rfl, rfl⟩, rfl, hb⟩
    · exact ⟨_, 10, .inr ⟨h1, rfl, rfl⟩, rfl, hb⟩))
theorem getI {S : Nat → Prop} {w : World} {l b base n fi : Nat} {F : List Bk} {O : List (Nat × Bk)} {P : List Int} (hl : LogI w l b base n fi) (hd : Dv S w b F O P) (hn : ∀ j, w.heap.size ≤ j → S j) (hSl : ¬ S l) (hN : Nib w)
    (hSN : ¬ S 0) (hfi : TellsI fi) (hbn : base + n ≤ F.length) (i : Int) :
    Calls Tryz.prog 18 #[.pointer (some ⟨l, 0, none⟩), .int .i64 i] w (GetOut S w b F O (logGetR kindI zsI base n i F O P)) :=
  getI_log hl hd hn hSl hN hSN hfi hbn i kindI kindI_ok kindI_get
theorem allI {S : Nat → Prop} {w : World} {l b base n fi : Nat} {F : List Bk} {O : List (Nat × Bk)} (hl : LogI w l b base n fi) (hd : Dv S w b F O []) (hn : ∀ j, w.heap.size ≤ j → S j) (hSl : ¬ S l) (hN : Nib w)
    (hSN : ¬ S 0) (hfi : TellsI fi) (hbn : base + n ≤ F.length) :
    Calls Tryz.prog 64 #[.pointer (some ⟨l, 0, none⟩)] w (AllOut S w b l F O 39 4 kindI zsI base n) :=
  allI_log hl hd hn hSl hN hSN hfi hbn kindI kindI_ok kindI_get
theorem cd0_ds {K : Kind} {zs : List Value} {base n : Nat} {i : Int} {F : List Bk} {O : List (Nat × Bk)} (h : (logGetR K zs base n i F O []).2.1 = 0) : K.ok (curB F O (base + i.toNat)) = true ∧ K.nm (curB F O (base + i.toNat)) = i ∧ (logGetR K zs base n i F O []).1 = K.ds (curB F O (base + i.toNat)) := by
  unfold logGetR at h ⊢
  split at h
  · simp at h
  · split at h
    · simp at h
    · split at h
      · simp at h
      · split at h
        · rename_i a b c d
          rw [if_neg a, if_neg b, if_neg c, if_pos d]
          exact ⟨d.1, d.2, rfl⟩
        · simp at h
theorem mem_allTo {K : Kind} {zs : List Value} {base n i : Nat} {F : List Bk} {O : List (Nat × Bk)} {x : List Value} (h : x ∈ allTo K zs base n F O i) : ∃ j, j < i ∧ K.ok (curB F O (base + j)) = true ∧ K.nm (curB F O (base + j)) = (j : Int) ∧ x = K.ds (curB F O (base + j)) := by
  simp only [allTo, List.mem_map, List.mem_filter, List.mem_range, beq_iff_eq] at h
  obtain ⟨j, ⟨h1, h2⟩, rfl⟩ := h
  obtain ⟨a, b, c⟩ := cd0_ds h2
  rw [Int.toNat_natCast] at a b c
  exact ⟨j, h1, a, b, c⟩
theorem flatten_len {L : List (List Value)} {k : Nat} (h : ∀ x ∈ L, x.length = k) : L.flatten.length = L.length * k := by
  induction L with
  | nil => simp
  | cons x L ih => simp only [List.flatten_cons, List.length_append, List.length_cons]; rw [h x (by simp), ih (fun y hy => h y (by simp [hy])), Nat.succ_mul]; omega
def NextOut (S : Nat → Prop) (w : World) (b : Nat) (F : List Bk) (O : List (Nat × Bk)) (base n : Nat) (e : Ending) (w' : World) : Prop :=
  (((∀ j, j < n → fine kindI zsI base n F O j) ∧ ((allTo kindI zsI base n F O n = [] ∧ e = .returned (.tuple #[.int .i64 0, .int .i64 0])) ∨
      ∃ (a : Int) (L : List (List Value)) (r : List Value), allTo kindI zsI base n F O n = L ++ [Value.int .i64 a :: r] ∧ e = .returned (.tuple #[.int .i64 (if (n : Int) ≤ a + 1 then 0 else a + 1), .int .i64 (if (n : Int) ≤ a + 1 then 17 else 0)]))) ∨
    (∃ i, i < n ∧ ¬ fine kindI zsI base n F O i ∧ e = .returned (.tuple #[.int .i64 0, .int .i64 (logGetR kindI zsI base n (i : Nat) F O []).2.1]))) ∧ Dv S w' b F O [] ∧ Upd S w w'
set_option maxRecDepth 100000 in
set_option maxHeartbeats 1000000 in
theorem next_any {S : Nat → Prop} {w : World} {l lc lf b base n fi : Nat} {F : List Bk} {O : List (Nat × Bk)} (hl : LogI w l b base n fi) (hd : Dv S w b F O []) (hn : ∀ j, w.heap.size ≤ j → S j) (hSl : ¬ S l) (hN : Nib w)
    (hSN : ¬ S 0) (hfi : TellsI fi) (hbn : base + n ≤ F.length) :
    Calls Tryz.prog 55 #[.agg #[.pointer (some ⟨l, 0, none⟩), .pointer (some ⟨lc, 0, none⟩), .pointer (some ⟨lf, 0, none⟩)]] w (NextOut S w b F O base n) := by
  have hu : Upd (fun _ => False) w (w.alloc (.cells #[.pointer (some ⟨l, 0, none⟩), .pointer (some ⟨lc, 0, none⟩), .pointer (some ⟨lf, 0, none⟩)] 28)) := (Upd.refl _ w).alloc _
  have hg := heap_alloc_last w (.cells #[.pointer (some ⟨l, 0, none⟩), .pointer (some ⟨lc, 0, none⟩), .pointer (some ⟨lf, 0, none⟩)] 28) rfl
  have hsz : (w.alloc (.cells #[.pointer (some ⟨l, 0, none⟩), .pointer (some ⟨lc, 0, none⟩), .pointer (some ⟨lf, 0, none⟩)] 28)).heap.size = w.heap.size + 1 := by simp
  have hfl := hd.good.fl
  have H := Lib.hid (And.intro hl (And.intro hd (And.intro hn (And.intro hSl (And.intro hN (And.intro hSN hfi))))))
  clear hl hd hn hSl hN hSN hfi
  go_enter Tryz.func55, Tryz.ntmps55
  go_wp2_with fail
  generalize w.alloc (.cells #[.pointer (some ⟨l, 0, none⟩), .pointer (some ⟨lc, 0, none⟩), .pointer (some ⟨lf, 0, none⟩)] 28) = w1 at *
  obtain ⟨hl, hd, hn, hSl, hN, hSN, hfi⟩ := H.out
  have hd1 : Dv (fun j => S j ∧ j ≠ w.heap.size) w1 b F O [] := (hd.but (Nat.le_refl _)).keep hu (fun _ _ h => h)
  have HL := Lib.hid (And.intro (hl.keep hu (fun h => h)) (And.intro hu (And.intro hg hSl)))
  refine (allI (S := fun j => S j ∧ j ≠ w.heap.size) (hl.keep hu (fun h => h)) hd1 (fun j hj => ⟨hn j (by omega), by omega⟩) (fun h => hSl h.1) (hN.keep hu (fun h => h)) (fun h => hSN h.1) hfi hbn).mono ?_
  clear hl hd hn hSl hN hSN hfi hd1 hu hg
  rintro e w2 (⟨hfine, v, rfl, T, hTS, hTn, hdT, hsl, hown, hfrom, hU⟩ | ⟨i, hi, hfine, hnf, rfl, hdT, hU⟩)
  · have hD : Hid (Dv S w2 b F O [] ∧ Upd S w w2) := ⟨hdT.wide (fun j h => (hTS j h).1), (HL.out.2.1.mono (fun _ _ h => h.elim)).trans (hU.mono (fun j _ h => h.1))⟩
    have hl2 := HL.out.1.keep hU (fun h => HL.out.2.2.2 h.1)
    have hg2 := (hU.block w.heap.size (lt_of_block HL.out.2.2.1) (fun h => h.2 rfl)).trans HL.out.2.2.1
    have c0 : w2.cell? ⟨w.heap.size, 0, none⟩ = some (.pointer (some ⟨l, 0, none⟩)) := cell_of_block hg2 0
    have hlen := allTo_len (K := kindI) (zs := zsI) (base := base) (n := n) (F := F) (O := O) n
    have hcells := fun j => logGetR_cells (K := kindI) (zs := zsI) (base := base) (n := n) (k := 4) (F := F) (O := O) (fun v hv => ⟨(kindI_ok v hv).2.2.1, (kindI_ok v hv).2.2.2.1⟩) ⟨rfl, by intro u hu; simp at hu; subst hu; rfl⟩ (fun s => curB_len hdT.good s) j
    have HF := Lib.hid (And.intro hfine (And.intro hl2 hcells))
    clear hfine hTS hTn hdT hown hfrom hU hl2 hg2 hcells
    rcases List.eq_nil_or_concat (allTo kindI zsI base n F O n) with hnil | ⟨L, x, hcon⟩
    · rw [hnil] at hsl
      obtain ⟨ao, c, rfl⟩ := hsl.rd.nil_iff
      have HN := Lib.hid hnil
      clear hsl hnil hlen
      go_wp2
      go_ret2
      exact ⟨.inl ⟨HF.out.1, .inl ⟨HN.out, rfl⟩⟩, hD.out.1, hD.out.2⟩
    · rw [List.concat_eq_append] at hcon
      obtain ⟨j, hj, hok, hnm, hx⟩ := mem_allTo (x := x) (K := kindI) (zs := zsI) (base := base) (n := n) (i := n) (F := F) (O := O) (by rw [hcon]; simp)
      have hall4 : ∀ y ∈ L ++ [x], y.length = 4 := fun y hy => by
        rw [← hcon] at hy
        obtain ⟨j', -, -, -, rfl⟩ := mem_allTo hy
        simp [kindI, natsI, numsI, numsAt_len]
      have hx0 : x[0]? = some (.int .i64 (j : Int)) := by rw [hx, ← hnm]; rfl
      obtain ⟨a, r, rfl⟩ : ∃ r0 r, x = r0 :: r := by cases x with | nil => simp at hx0 | cons a r => exact ⟨a, r, rfl⟩
      simp at hx0
      subst hx0
      have hln : (allTo kindI zsI base n F O n).length = L.length + 1 := by rw [hcon]; simp
      rw [hln] at hsl
      rw [hcon] at hsl
      obtain ⟨g, off, cap, cur, rfl, hg, hos, hcc⟩ := hsl.at (by omega)
      have hcell : w2.cell? ⟨g, off + L.length * 4, none⟩ = some (.int .i64 (j : Int)) := by
        rw [cell_of_block hg]
        refine hcc _ _ ?_
        have h4 : L.flatten.length = L.length * 4 := flatten_len (fun y hy => hall4 y (by simp [hy]))
        rw [List.flatten_append, List.getElem?_append_right (by omega), h4, Nat.sub_self]
        rfl
      have hLn : L.length + 1 ≤ n := by rw [← hln]; exact hlen
      have HN := Lib.hid hcon
      have hl2' := HF.out.2.1
      clear hcon hln hsl hos hcc hg hlen hx hall4 hnm hok
      have b1 : (0 : Int) ≤ (L.length : Int) ∧ (L.length : Int) < ((L.length + 1 : Nat) : Int) := by omega
      have e1 : (((L.length + 1 : Nat) : Int)) - 1 = (L.length : Int) := by omega
      have hne : ((L.length + 1 : Nat) : Int) ≠ 0 := by omega
      have q0 : (((L.length + 1 : Nat) : Int) == 0) = false := by rw [beq_eq_false_iff_ne]; exact hne
      have HL2 := Lib.hid hl2'
      clear hl2' hne
      obtain ⟨b1, b2⟩ := b1
      go_wp2_with fail
      refine (lenI HL2.out).mono ?_
      rintro e w3 ⟨rfl, rfl⟩
      by_cases hnj : (n : Int) ≤ (j : Int) + 1
      · have q1 : decide ((n : Int) ≤ (j : Int) + 1) = true := by simpa using hnj
        have HJ := Lib.hid hnj
        clear hnj
        go_wp2
        go_ret2
        exact ⟨.inl ⟨HF.out.1, .inr ⟨_, _, _, HN.out, by rw [if_pos HJ.out, if_pos HJ.out]; rfl⟩⟩, hD.out.1, hD.out.2⟩
      · have q1 : decide ((n : Int) ≤ (j : Int) + 1) = false := by simpa using hnj
        have HJ := Lib.hid hnj
        clear hnj
        go_wp2
        go_ret2
        exact ⟨.inl ⟨HF.out.1, .inr ⟨_, _, _, HN.out, by rw [if_neg (by have := HJ.out; omega), if_neg (by have := HJ.out; omega)]; rfl⟩⟩, hD.out.1, hD.out.2⟩
  · have hc : ((logGetR kindI zsI base n (i : Nat) F O []).2.1 == 0) = false := by
      rw [beq_eq_false_iff_ne]; exact fun e => hnf (.inl e)
    have hD : Hid (Dv S w2 b F O [] ∧ Upd S w w2) := ⟨hdT.wide (fun j h => h.1), (HL.out.2.1.mono (fun _ _ h => h.elim)).trans (hU.mono (fun j _ h => h.1))⟩
    have HF := Lib.hid hnf
    clear hfine hnf hdT hU
    generalize hcd : (logGetR kindI zsI base n (i : Nat) F O []).2.1 = cd at *
    have HC := Lib.hid hcd
    clear hcd
    go_wp2
    go_ret2
    exact ⟨.inr ⟨i, hi, HF.out, by rw [HC.out]; rfl⟩, hD.out.1, hD.out.2⟩
theorem flushR_len (F : List Bk) (O : List (Nat × Bk)) (P : List Int) : (flushR F O P).F.length = F.length := by unfold flushR; (repeat' split) <;> simp [flushF_len]
theorem writeR_F (F : List Bk) (O : List (Nat × Bk)) (P : List Int) (s : Nat) (y : Bk) : (writeR F O P s y).F = F := by unfold writeR; (repeat' split) <;> rfl
theorem putR_len (F : List Bk) (O : List (Nat × Bk)) (P : List Int) (s : Nat) (y : Bk) : (putR F O P s y).F.length = F.length := by
  unfold putR
  (repeat' split) <;> simp [flushR_len, writeR_F]
theorem logPutR_len (mb : Bool) (base n : Nat) (a : Int) (y : Bk) (F : List Bk) (O : List (Nat × Bk)) (P : List Int) : (logPutR mb base n a y F O P).F.length = F.length := by
  unfold logPutR
  (repeat' split) <;> simp [putR_len]
theorem putR_go (F : List Bk) (s : Nat) (y : Bk) : putR F [] [] s y = if F.getD s zB = y then ⟨F, [], [], 0⟩ else if F.getD s zB ≠ zB then ⟨F, [], [], 15⟩ else ⟨F.set s y, [], [], 0⟩ := by
  have h0 : fate [] = 0 := rfl
  have hc : curB F [] s = F.getD s zB := rfl
  unfold putR flushR writeR
  simp only [h0, hc, List.tail_nil, List.nil_append]
  rfl
section
variable {S : Nat → Prop} {w w' : World} {li lc lf d k : Nat} {F : List Bk} {O : List (Nat × Bk)} {P : List Int}
theorem L17.keep (h : L17 S w li lc lf d k F O P) {T : Nat → Prop} (hu : Upd T w w') (hT : ∀ j, T j → ¬ S j ∧ j ≠ li ∧ j ≠ lc ∧ j ≠ lf ∧ j ≠ 0) : L17 S w' li lc lf d k F O P :=
  { h with
    i := h.i.keep hu (fun hs => (hT _ hs).2.1 rfl)
    c := h.c.keep hu (fun hs => (hT _ hs).2.2.1 rfl)
    f := h.f.keep hu (fun hs => (hT _ hs).2.2.2.1 rfl)
    dv := h.dv.keep hu (fun j hj ht => (hT j ht).1 hj)
    nS := fun j hj => h.nS j (Nat.le_trans hu.size hj)
    nib := h.nib.keep hu (fun hs => (hT _ hs).2.2.2.2 rfl) }
theorem L17.new (h : L17 S w li lc lf d k F O P) (hu : Upd (fun _ => False) w w') : L17 S w' li lc lf d k F O P := h.keep hu (fun _ h => h.elim)
theorem L17.box (h : L17 S w li lc lf d k F O P) (o : Obj) : L17 (fun j => S j ∧ j ≠ w.heap.size) (w.alloc o) li lc lf d k F O P :=
  have hu : Upd (fun _ => False) w (w.alloc o) := (Upd.refl _ w).alloc o
  { h.new hu with
    dv := (h.dv.but (Nat.le_refl _)).new hu
    nS := fun j hj => by simp at hj; exact ⟨h.nS j (by omega), by omega⟩
    iS := fun hs => h.iS hs.1
    cS := fun hs => h.cS hs.1
    fS := fun hs => h.fS hs.1
    nibS := fun hs => h.nibS hs.1 }
theorem L17.turn (h : L17 S w li lc lf d k F O P) {F' : List Bk} {O' : List (Nat × Bk)} {P' : List Int} (hu : Upd S w w') (hd : Dv S w' d F' O' P') (hl : F'.length = F.length) : L17 S w' li lc lf d k F' O' P' :=
  { h with
    i := h.i.keep hu h.iS
    c := h.c.keep hu h.cS
    f := h.f.keep hu h.fS
    dv := hd
    fl := hl.trans h.fl
    nS := fun j hj => h.nS j (Nat.le_trans hu.size hj)
    nib := h.nib.keep hu h.nibS }
def LOut (S : Nat → Prop) (w : World) (li lc lf d k : Nat) (r : DRes) (e : Ending) (w' : World) : Prop := e = .returned (.int .i64 r.cd) ∧ L17 S w' li lc lf d k r.F r.O r.P ∧ Upd S w w'
theorem l17_put (h : L17 S w li lc lf d k F O P) (hO : O.length < 65000) (x1 x2 x3 x4 : Int) :
    Calls Tryz.prog 23 #[ptr li, .agg (intC x1 x2 x3 x4).toArray] w (LOut S w li lc lf d k (logPutR (mayI [x1, x2, x3, x4]) 11 k x1 (intentB x1.toNat x2.toNat x3.toNat x4.toNat) F O P)) :=
  (putI h.i h.dv h.nS h.iS h.nib h.nibS tellsOpen1 (by have := h.fl; omega) hO x1 x2 x3 x4).mono fun _ _ ⟨he, hd, hu⟩ => ⟨he, h.turn hu hd (logPutR_len _ _ _ _ _ _ _ _), hu⟩
def LGet (S : Nat → Prop) (w : World) (li lc lf d k : Nat) (F : List Bk) (O : List (Nat × Bk)) (r : List Value × Int × List Int) (e : Ending) (w' : World) : Prop := e = .returned (.tuple #[.agg r.1.toArray, .int .i64 r.2.1]) ∧ L17 S w' li lc lf d k F O r.2.2 ∧ Upd S w w'
theorem l17_get (h : L17 S w li lc lf d k F O P) (i : Int) : Calls Tryz.prog 18 #[ptr li, .int .i64 i] w (LGet S w li lc lf d k F O (logGetR kindI zsI 11 k i F O P)) :=
  (getI h.i h.dv h.nS h.iS h.nib h.nibS tellsOpen1 (by have := h.fl; omega) i).mono fun _ _ ⟨he, hd, hu⟩ => ⟨he, h.turn hu hd rfl, hu⟩
theorem thing_ok (id x : Int) (w : World) : Calls Tryz.prog 21 #[.int .i64 id, .int .i64 x] w fun e w' => e = .returned (.agg (intC id id x 1).toArray) ∧ Upd (fun _ => False) w w' := by
  go_enter Tryz.func21, Tryz.ntmps21
  go_wp2
  refine bodyPost_ret (results_mid1 rfl _ _ w.heap.size 0 (intC id id x 1) _ rfl (range_of_block (heap_alloc_last w _ rfl)) Tryz.underlying39 rfl infoIn) rfl ⟨rfl, (Upd.refl _ w).alloc _⟩
end
def thB (id x : Nat) : Bk := intentB id id x 1
theorem thMay {id x : Nat} (h1 : id ≤ 1099511627776) (h2 : x ≤ 4095) : mayI [(id : Int), id, x, ((1 : Nat) : Int)] = true := mayI_iff.2 ⟨⟨⟨by omega, by omega⟩, by omega, by omega⟩, by omega, by omega, by omega, by omega⟩
theorem thB_get {id x : Nat} (h1 : id ≤ 1099511627776) (h2 : x ≤ 4095) : okI (thB id x) = true ∧ numsI (thB id x) = [id, id, x, 1] := intent_get (thMay h1 h2)
theorem thB_ne {id x : Nat} (h1 : id ≤ 1099511627776) (h2 : x ≤ 4095) : thB id x ≠ zB := sect_ne (by decide) (by decide) (intent_fits (by omega) (by omega) (by omega) (by omega))
theorem thB_inj {id x id' x' : Nat} (h1 : id ≤ 1099511627776) (h2 : x ≤ 4095) (h1' : id' ≤ 1099511627776) (h2' : x' ≤ 4095) (h : thB id x = thB id' x') : id = id' ∧ x = x' := by
  have a := (thB_get h1 h2).2
  rw [h, (thB_get h1' h2').2] at a
  simp at a
  exact ⟨a.1.symm, a.2.symm⟩
theorem thB_len {id x : Nat} (h1 : id ≤ 1099511627776) (h2 : x ≤ 4095) : (thB id x).length = 64 := sectB_len (intent_fits (by omega) (by omega) (by omega) (by omega)).2
def thPut (F : List Bk) (k : Nat) (id x : Nat) : DRes := if k ≤ id then ⟨F, [], [], 17⟩ else if F.getD (11 + id) zB = thB id x then ⟨F, [], [], 0⟩ else if F.getD (11 + id) zB ≠ zB then ⟨F, [], [], 15⟩ else ⟨F.set (11 + id) (thB id x), [], [], 0⟩
theorem thPut_eq {F : List Bk} {k id x : Nat} (h1 : id ≤ 1099511627776) (h2 : x ≤ 4095) : logPutR (mayI [(id : Int), (id : Int), (x : Int), 1]) 11 k (id : Int) (intentB (id : Int).toNat (id : Int).toNat (x : Int).toNat (1 : Int).toNat) F [] [] = thPut F k id x := by
  have hm : mayI [(id : Int), (id : Int), (x : Int), 1] = true := thMay h1 h2
  rw [hm]
  unfold logPutR thPut
  simp only [Bool.true_eq_false, if_false, Int.toNat_natCast]
  by_cases hk : k ≤ id
  · rw [if_pos (Or.inr (by omega)), if_pos hk]
  · rw [if_neg (by omega), if_neg hk, putR_go]
    rfl
def aF : List Bk := (devL 3).set 12 (thB 1 4)
theorem a1 : thPut (devL 3) 3 1 4 = ⟨aF, [], [], 0⟩ := by
  have h0 : (devL 3).getD 12 zB = zB := by rw [List.getD_eq_getElem?_getD, devL_zero 3 12 (by omega) (by omega)]; rfl
  unfold thPut
  rw [if_neg (by omega)]
  rw [show 11 + 1 = 12 from rfl, h0, if_neg (fun e => thB_ne (by omega) (by omega) e.symm), if_neg (fun h => h rfl)]
  rfl
theorem aF_at : aF.getD 12 zB = thB 1 4 := by
  unfold aF
  rw [List.getD_eq_getElem?_getD, List.getElem?_set_self (by rw [devL_len]; omega)]; rfl
theorem a2 : thPut aF 3 1 4 = ⟨aF, [], [], 0⟩ := by
  unfold thPut
  rw [if_neg (by omega), show 11 + 1 = 12 from rfl, if_pos aF_at]
theorem a3 : thPut aF 3 1 5 = ⟨aF, [], [], 15⟩ := by
  unfold thPut
  rw [if_neg (by omega), show 11 + 1 = 12 from rfl, aF_at, if_neg (fun e => by have := (thB_inj (by omega) (by omega) (by omega) (by omega) e).2; omega), if_pos (thB_ne (by omega) (by omega))]
theorem get_zero {F : List Bk} {k j : Nat} (hj : j < k) (h : F.getD (11 + j) zB = zB) : logGetR kindI zsI 11 k (j : Int) F [] [] = (zsI, 14, []) := by
  unfold logGetR
  rw [if_neg (by omega), if_neg (by decide)]
  have : curB F [] (11 + (j : Int).toNat) = zB := by rw [Int.toNat_natCast]; exact h
  rw [if_pos this]
  rfl
theorem get_thing {F : List Bk} {k j x : Nat} (hj : j < k) (h1 : j ≤ 1099511627776) (h2 : x ≤ 4095) (h : F.getD (11 + j) zB = thB j x) : logGetR kindI zsI 11 k (j : Int) F [] [] = (intC j j x 1, 0, []) := by
  unfold logGetR
  rw [if_neg (by omega), if_neg (by decide)]
  have hc : curB F [] (11 + (j : Int).toNat) = thB j x := by rw [Int.toNat_natCast]; exact h
  obtain ⟨g1, g2⟩ := thB_get h1 h2
  have hd : kindI.ds (thB j x) = intC j j x 1 := by show ints (natsI (numsI (thB j x))) = _; rw [g2]; rfl
  have hn : kindI.nm (thB j x) = j := by show (((numsI (thB j x)).getD 0 0 : Nat) : Int) = _; rw [g2]; rfl
  rw [hc, if_neg (thB_ne h1 h2), if_pos ⟨g1, hn⟩, hd]
  rfl
theorem a4 : allTo kindI zsI 11 3 aF [] 3 = [intC 1 1 4 1] := by
  have z : ∀ s, s ≠ 12 → s ≠ 1 → s < 22 → aF.getD s zB = zB := fun s h1 h2 h3 => by
    unfold aF
    rw [List.getD_eq_getElem?_getD, List.getElem?_set_ne (by omega), devL_zero 3 s h2 (by omega)]; rfl
  have e0 := get_zero (F := aF) (k := 3) (j := 0) (by omega) (z 11 (by omega) (by omega) (by omega))
  have e1 := get_thing (F := aF) (k := 3) (j := 1) (x := 4) (by omega) (by omega) (by omega) aF_at
  have e2 := get_zero (F := aF) (k := 3) (j := 2) (by omega) (z 13 (by omega) (by omega) (by omega))
  rw [allTo_miss (i := 2) (by rw [e2]; decide), allTo_hit (i := 1) (by rw [e1]), allTo_miss (i := 0) (by rw [e0]; decide), e1]
  rfl
theorem a5 : ∀ j, j < 3 → fine kindI zsI 11 3 aF [] j := by
  have z : ∀ s, s ≠ 12 → s ≠ 1 → s < 22 → aF.getD s zB = zB := fun s h1 h2 h3 => by
    unfold aF
    rw [List.getD_eq_getElem?_getD, List.getElem?_set_ne (by omega), devL_zero 3 s h2 (by omega)]; rfl
  intro j hj
  rcases (show j = 0 ∨ j = 1 ∨ j = 2 by omega) with rfl | rfl | rfl
  · exact .inr (by rw [get_zero (F := aF) (k := 3) (j := 0) (by omega) (z 11 (by omega) (by omega) (by omega))])
  · exact .inl (by rw [get_thing (F := aF) (k := 3) (j := 1) (x := 4) (by omega) (by omega) (by omega) aF_at])
  · exact .inr (by rw [get_zero (F := aF) (k := 3) (j := 2) (by omega) (z 13 (by omega) (by omega) (by omega))])
end Go.Proofs.YtnadilfobmgebaaGreatDoor
