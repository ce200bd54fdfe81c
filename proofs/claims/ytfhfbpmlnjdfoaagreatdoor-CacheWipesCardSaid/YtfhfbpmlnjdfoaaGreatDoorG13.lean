/- The plain law of Evict: what goes, and what is left. The clock's Evict. A cache's clock: Evict. A cache: leave. A cache: drop. Slots: New, Alloc, Copy; the document's New, Alloc, Turn, All. -/
import Derived.Test.YtfhfbpmlnjdfoaaGreatDoorG12
import Derived.Test.YtfhfbpmlnjdfoaaGreatDoorG05
import Derived.WalkSpells
namespace Go.Proofs.YtfhfbpmlnjdfoaaGreatDoor.EvG
open Go Go.RowKit Go.Proofs.YtfhfbpmlnjdfoaaGreatDoor
def trimG (few : Nat) (L : List Int) : List Int := if few < L.length then L.tail else L
def restK (K : List Int) (i : Nat) : List Int := K.drop (i + 1) ++ K.take i
structure EvYes (fm : Int → Bool) (few : Nat) (K : List Int) (A : Int → Bool) (G : List Int) (key : Int) (K' : List Int) (A' : Int → Bool) (G' : List Int) : Prop where
  ex : ∃ i, ∃ h : i < K.length, key = K[i] ∧ K' = restK K i ∧ ((∀ x, K.head? = some x → fm x = true ∧ A x = false) → i = 0 ∧ A' = A) ∧ ((i = 0 ∧ A' = A) ∨ 1 ≤ i ∨ ∀ x ∈ K, fm x = false ∨ A x = true) ∧ ∀ j (hj : j < K.length), j < i → fm K[j] = true → A' K[j] = false
  gh : G' = trimG few (G ++ [key])
  out : A' key = false
  sub : ∀ x, A' x = true → A x = true
def evGo (fm : Int → Bool) (K : List Int) : Nat → Nat → (Int → Bool) → Option (Nat × (Int → Bool))
  | 0, _, _ => none
  | g + 1, h, A => if fm (K.getD (h % K.length) 0) = false then evGo fm K g (h + 1) A else if A (K.getD (h % K.length) 0) = true then evGo fm K g (h + 1) (updB A (K.getD (h % K.length) 0) false) else some (h % K.length, A)
def evR (fm : Int → Bool) (few : Nat) (K : List Int) (A : Int → Bool) (G : List Int) : Int × Int × List Int × (Int → Bool) × List Int :=
  match evGo fm K (2 * K.length) 0 A with
  | none => (0, 14, K, A, G)
  | some (p, A') => (K.getD p 0, 0, restK K p, A', trimG few (G ++ [K.getD p 0]))
section
variable {fm : Int → Bool} {K : List Int} {A : Int → Bool} {g h p : Nat} {k : Int} {hp : p < K.length}
theorem evGo_skip (hg : 1 ≤ g) (hk : k = K[p]) (he : p = h % K.length) (hf : fm k = false) : evGo fm K g h A = evGo fm K (g - 1) (h + 1) A := by
  obtain ⟨g, rfl⟩ : ∃ g', g = g' + 1 := ⟨g - 1, by omega⟩
  have e : K.getD (h % K.length) 0 = k := by rw [← he, hk]; simp [hp]
  simp only [evGo, e, hf, if_true, Nat.add_sub_cancel]
theorem evGo_ask (hg : 1 ≤ g) (hk : k = K[p]) (he : p = h % K.length) (hf : fm k = true) (ha : A k = true) : evGo fm K g h A = evGo fm K (g - 1) (h + 1) (updB A k false) := by
  obtain ⟨g, rfl⟩ : ∃ g', g = g' + 1 := ⟨g - 1, by omega⟩
  have e : K.getD (h % K.length) 0 = k := by rw [← he, hk]; simp [hp]
  simp only [evGo, e, hf, ha, if_true, Nat.add_sub_cancel]
  simp
theorem evGo_yes (hg : 1 ≤ g) (hk : k = K[p]) (he : p = h % K.length) (hf : fm k = true) (ha : A k = false) : evGo fm K g h A = some (p, A) := by
  obtain ⟨g, rfl⟩ : ∃ g', g = g' + 1 := ⟨g - 1, by omega⟩
  have e : K.getD (h % K.length) 0 = k := by rw [← he, hk]; simp [hp]
  simp only [evGo, e, hf, ha]
  simp [he]
end
def EvOut (fm : Int → Bool) (few : Nat) (K : List Int) (A : Int → Bool) (G : List Int) (key code : Int) (K' : List Int) (A' : Int → Bool) (G' : List Int) : Prop :=
  ((code = 14 ∧ key = 0 ∧ K' = K ∧ A' = A ∧ G' = G ∧ ∀ x ∈ K, fm x = false ∨ A x = true) ∨ (code = 0 ∧ EvYes fm few K A G key K' A' G')) ∧ evR fm few K A G = (key, code, K', A', G')
theorem restK_perm {K : List Int} {i : Nat} (h : i < K.length) : (K[i] :: restK K i).Perm K := by
  unfold restK
  have e : K = K.take i ++ K[i] :: K.drop (i + 1) := by simp
  have h1 : (K[i] :: (K.drop (i + 1) ++ K.take i)).Perm (K.take i ++ K[i] :: K.drop (i + 1)) := by
    exact List.perm_append_comm (l₁ := K[i] :: K.drop (i + 1)) (l₂ := K.take i)
  rw [← e] at h1
  exact h1
theorem restK_len {K : List Int} {i : Nat} (h : i < K.length) : (restK K i).length + 1 = K.length := by
  have := (restK_perm h).length_eq
  simpa using this
theorem trimG_len (few : Nat) (L : List Int) (h : L.length ≤ few + 1) : (trimG few L).length ≤ few := by
  unfold trimG
  split
  · rw [List.length_tail]; omega
  · omega
theorem trimG_mem {few : Nat} {L : List Int} {x : Int} (h : x ∈ trimG few L) : x ∈ L := by
  unfold trimG at h
  split at h
  · exact List.mem_of_mem_tail h
  · exact h
theorem trimG_nodup {few : Nat} {L : List Int} (h : L.Nodup) : (trimG few L).Nodup := by
  unfold trimG
  split
  · exact h.sublist (List.tail_sublist L)
  · exact h
theorem CkGood.evict {most few : Nat} {K G K' G' : List Int} {A A' : Int → Bool} {fm : Int → Bool} {key : Int} (h : CkGood most few K A G) (hy : EvYes fm few K A G key K' A' G') : CkGood most few K' A' G' := by
  obtain ⟨i, hi, rfl, rfl, _, _, _⟩ := hy.ex
  have hp := restK_perm hi
  have hnd : (K[i] :: restK K i).Nodup := hp.nodup_iff.2 h.kd
  have hmem : ∀ x, x ∈ restK K i → x ∈ K := fun x hx => hp.mem_iff.1 (List.mem_cons_of_mem _ hx)
  have hlen := restK_len hi
  have hgh := hy.gh
  subst hgh
  exact {
    kr := fun x hx => h.kr x (hmem x hx)
    gr := fun x hx => by
      rcases List.mem_append.1 (trimG_mem hx) with h1 | h1
      · exact h.gr x h1
      · simp at h1; exact h1 ▸ h.kr _ (List.getElem_mem hi)
    kd := (List.nodup_cons.1 hnd).2
    gd := trimG_nodup (by
      rw [List.nodup_append]
      refine ⟨h.gd, by simp, fun x hx y hy e => ?_⟩
      simp at hy; subst hy; subst e
      exact h.dis _ (List.getElem_mem hi) hx)
    dis := fun x hx hg => by
      rcases List.mem_append.1 (trimG_mem hg) with h1 | h1
      · exact h.dis x (hmem x hx) h1
      · simp at h1; subst h1
        exact (List.nodup_cons.1 hnd).1 hx
    ask := fun x hx => by
      have h1 := h.ask x (hy.sub x hx)
      rcases List.mem_cons.1 (hp.mem_iff.2 h1) with h2 | h2
      · subst h2; rw [hy.out] at hx; cases hx
      · exact h2
    kl := by have := h.kl; omega
    gl := trimG_len _ _ (by have := h.gl; simp; omega)
    ml := h.ml
    fl := h.fl
    m1 := h.m1 }
theorem EvOut.good {most few : Nat} {K G K' G' : List Int} {A A' : Int → Bool} {fm : Int → Bool} {key code : Int} (h : CkGood most few K A G) (ho : EvOut fm few K A G key code K' A' G') : CkGood most few K' A' G' := by
  rcases ho with ⟨⟨_, _, rfl, rfl, rfl, _⟩ | ⟨_, hy⟩, -⟩
  · exact h
  · exact CkGood.evict h hy
theorem del_first {w : World} {v : Value} {l : List Int} (h : Sl w 3 1 v l.length (ints l)) (hle : l.length ≤ 4096) (hi : 0 < l.length) :
    Calls Tryz.prog 238 #[v, .int .i64 0, .int .i64 1] w fun e w' => ∃ ao n c, e = .returned (.slice ao n c) ∧ (Value.slice ao n c).ownBlock = v.ownBlock ∧ Sl w' 3 1 (.slice ao n c) l.tail.length (ints l.tail) ∧ Upd (ownS v) w w' := by
  have := del_one h hle hi
  rw [List.eraseIdx_zero] at this
  refine this.mono ?_
  rintro e w' ⟨v', rfl, h1, h2, h3⟩
  obtain ⟨ao, c, rfl⟩ := h2.rd.nil_iff
  exact ⟨ao, _, c, rfl, h1, h2, h3⟩
theorem rd_from {w : World} {g o c n : Nat} {cur : Array Value} {e : TypeId} {l : List Int} (hg : w.heap[g]? = some (.cells cur e (0, 0))) (hc : ∀ j u, (ints l)[j]? = some u → cur[o + j]? = some u) (hn : l.length ≤ maxLen) (A : Addr) (i : Nat) (hA : (if c = i then some (⟨g, o, none⟩ : Addr) else some ⟨g, o + i, none⟩) = some A) (hnl : n = l.length - i) (hcl : c = i → l.length ≤ i) (cc : Nat) :
    Rd w 1 (.slice (some A) n cc) (l.drop i).length (ints (l.drop i)) := by
  subst hnl
  refine ⟨by simp, by rw [List.length_drop]; omega, some A, cc, by rw [List.length_drop], (fun h => by cases h), fun b hb j u hj => ?_⟩
  cases hb
  have hj' : (ints l)[i + j]? = some u := by simpa [ints, List.getElem?_drop] using hj
  by_cases h : c = i
  · have := (List.getElem?_eq_some_iff.1 hj').1
    rw [length_ints] at this
    have := hcl h
    omega
  · rw [if_neg h] at hA
    cases hA
    rw [Addr.add_lit, cell_of_block hg, Nat.add_assoc]
    exact hc _ _ hj'
theorem rd_take {w : World} {g o : Nat} {cur : Array Value} {e : TypeId} {l : List Int} (hg : w.heap[g]? = some (.cells cur e (0, 0))) (hc : ∀ j u, (ints l)[j]? = some u → cur[o + j]? = some u) (hn : l.length ≤ maxLen) (i : Nat) (hi : i ≤ l.length) (cc : Nat) :
    Rd w 1 (.slice (some ⟨g, o, none⟩) i cc) (l.take i).length (ints (l.take i)) := by
  have hlt : (l.take i).length = i := by rw [List.length_take]; omega
  refine ⟨by simp, by rw [hlt]; omega, some ⟨g, o, none⟩, cc, by rw [hlt], (fun h => by cases h), fun b hb j u hj => ?_⟩
  cases hb
  have hj1 := (List.getElem?_eq_some_iff.1 hj).1
  rw [length_ints, hlt] at hj1
  have hj' : (ints l)[j]? = some u := by
    rw [← hj]; simp [ints, hj1]
  rw [Addr.add_lit, cell_of_block hg]
  exact hc _ _ hj'
set_option maxRecDepth 100000 in
set_option maxHeartbeats 16000000 in
theorem evict_at {w : World} {b mb N most few : Nat} {vk vg : Value} {K G : List Int} {A : Int → Bool} (h : CkAt w b mb N vk vg most few K A G) (xv : Value) (fm : Int → Bool) (hmay : MayIs xv fm w) :
    Calls Tryz.prog 165 #[.pointer (some ⟨b, 0, none⟩), mayV xv] w fun e w' => ∃ key code K' A' G' mb' vk' vg', e = .returned (.tuple #[.int .i64 key, .int .i64 code]) ∧
      EvOut fm few K A G key code K' A' G' ∧ CkMem w' b mb' N vk' vg' most few K' A' G' ∧ (∀ j, ckS b mb' vk' vg' j → ckS b mb vk vg j ∨ w.heap.size ≤ j) ∧ Upd (fun j => j = b) w w' := by
  obtain ⟨i0, hi0, hz0, hz1', hz2⟩ := info_parts infoI07
  have hq : ∀ w, (binOp .eql 210 (mayV xv) .nilFunc).run Tryz.prog w = .ok (.bool false) w := fun _ => by kernel_rfl
  have hmf : ∀ (fn : Fn) (first cap : Array Value) (w : World), (Instr.makeFunc fn first cap).run Tryz.prog w = .ok (.func fn first cap) w := fun _ _ _ _ => rfl
  have H := Lib.hid h
  have hblt := h.blt
  have hu1 : Upd (fun _ => False) w (w.alloc (.cells #[mayV xv] 210)).drew := ((Upd.refl _ _).alloc _).drew
  have H1 := h.keep hu1 (fun _ _ h => h)
  have hkl := h.kle
  have hgl := h.gle
  have C1 : Hid (((w.alloc (.cells #[mayV xv] 210)).drew.cell? ⟨b, 2, none⟩ = some vk) ∧ ((w.alloc (.cells #[mayV xv] 210)).drew.cell? ⟨b, 3, none⟩ = some (.map (some mb))) ∧
     ((w.alloc (.cells #[mayV xv] 210)).drew.cell? ⟨b, 4, none⟩ = some vg)) := ⟨H1.c.2.2.1, H1.c.2.2.2.1, H1.c.2.2.2.2⟩
  have M1 : Hid ((w.alloc (.cells #[mayV xv] 210)).drew.cell? ⟨w.heap.size, 0, none⟩ = some (mayV xv)) := cell_of_block (heap_alloc_last w _ rfl) 0
  have H1 := Lib.hid H1
  have HU1 := Lib.hid hu1
  have g2 := C1.out.1
  have g3 := C1.out.2.1
  have g4 := C1.out.2.2
  clear h hu1
  go_enter Tryz.func165, Tryz.ntmps165
  go_wp2
  refine wp_scope_straight ?_
  go_wp2
  go_region_held3 (fun W => W.cell? ⟨b, 2, none⟩ = some vk ∧ W.cell? ⟨b, 3, none⟩ = some (.map (some mb)) ∧ W.cell? ⟨b, 4, none⟩ = some vg) (go_keep)
    (first
    | ((go_at_call 113; refine (cloneI_any H1.out.ks.rd (by omega)).mono ?_; rintro e w3 ⟨v3, rfl, hs3, hf3, hb3⟩; have H3 := H1.out.below hb3; have k2 := H3.c.2.2.1; have k3 := H3.c.2.2.2.1; have k4 := H3.c.2.2.2.2; have H3 := Lib.hid H3))
    | ((go_at_call 235; refine (sclone_any H3.out.set).mono ?_; rintro e w4 ⟨rfl, hset4, hb4⟩; have H4 := H3.out.below hb4; have l2 := H4.c.2.2.1; have l3 := H4.c.2.2.2.1; have l4 := H4.c.2.2.2.2; have H4 := Lib.hid H4))
    | ((go_at_call 113; refine (cloneI_any H4.out.gs.rd (by omega)).mono ?_; rintro e w5 ⟨v5, rfl, hs5, hf5, hb5⟩; have H5 := H4.out.below hb5; have m2 := H5.c.2.2.1; have m3 := H5.c.2.2.2.1; have m4 := H5.c.2.2.2.2; have H5 := Lib.hid H5)))
  have hz1 : (w.alloc (.cells #[mayV xv] 210)).drew.heap.size = w.heap.size + 1 := by simp
  have hb35 : Below w3.heap.size w3 w5 := hb4.trans (hb5.mono hb4.size)
  have hU5 : Hid (Upd (fun _ => False) w w5) := HU1.out.trans (Upd.of_below (hb3.trans (hb35.mono hb3.size)))
  have HK5 := Lib.hid (hs3.keep (Upd.of_below (S := fun _ => False) hb35) (fun _ _ h => h))
  have HA5 := Lib.hid (hset4.keep (Upd.of_below (S := fun _ => False) hb5) (fun h => h))
  have HG5 := Lib.hid hs5
  have M5 := Lib.hid ((hb35.cell (p := ⟨w.heap.size, 0, none⟩) (by have := hb3.size; simp at this ⊢; omega)).trans ((hb3.cell (p := ⟨w.heap.size, 0, none⟩) (by simp)).trans M1.out))
  have HO : Hid ((∀ g, v3.ownBlock = some g → w.heap.size < g ∧ g < w3.heap.size) ∧ w.heap.size < w3.heap.size ∧ (∀ g, v5.ownBlock = some g → w3.heap.size < g)) := by
    have := hb3.size
    have := hset4.lt
    refine ⟨fun g hg => ⟨?_, hs3.lt hg⟩, by omega, fun g hg => ?_⟩
    · have := hf3 g hg; omega
    · have := hf5 g hg; omega
  obtain ⟨aok, ck, rfl⟩ := hs3.rd.nil_iff
  obtain ⟨aog, cg, rfl⟩ := hs5.rd.nil_iff
  generalize hmb : w3.heap.size = mb2 at *
  clear hb3 hb4 hb5 hb35 hs3 hs5 hf3 hf5 hset4 m2 m3 m4 l2 l3 l4 k2 k3 k4 g2 g3 g4 H3 H4 H1 C1 M1 HU1 hmb hz1
  go_wp2
  refine wp_label ?_
  go_wp2
  go_loopg [12] (2 * K.length) (fun g i wr => ∃ h : Nat, h + g = 2 * K.length ∧ i = .int .i64 h ∧ ∃ A2, SetAt wr mb2 N A2 ∧ (∀ x, A2 x = true → A x = true) ∧ ((h = 0 → A2 = A) ∧ evGo fm K g h A2 = evGo fm K (2 * K.length) 0 A) ∧ (∀ j (hj : j < K.length), j < h → (fm K[j] = false ∨ A K[j] = true) ∧ (fm K[j] = true → A2 K[j] = false)) ∧ Upd (fun j => j = mb2) w5 wr)
  case atStart => exact ⟨0, by omega, rfl, A, HA5.out, fun _ h => h, ⟨fun _ => rfl, rfl⟩, fun j hj h => by omega, Upd.refl _ _⟩
  case round =>
    obtain ⟨h, hh, rfl, A2, hs2, hsub, hz0, hz1, hur⟩ := hrel
    have R0 := Lib.hid (And.intro hs2 (And.intro hsub (And.intro hz0 (And.intro hz1 hur))))
    clear hs2 hsub hz0 hz1 hur
    by_cases hlt : h < 2 * K.length
    · have hpl : h % K.length < K.length := Nat.mod_lt _ (by omega)
      obtain ⟨p, hp⟩ : ∃ p, p = h % K.length := ⟨_, rfl⟩
      rw [← hp] at hpl
      have hmod : (h : Int) % (K.length : Int) = (p : Int) := by rw [hp]; exact (Int.natCast_emod h K.length).symm
      have HP := Lib.hid hp
      clear hp
      have hK := HK5.out.keep R0.out.2.2.2.2 (fun g hg e => by have := HO.out.1 g hg; omega)
      have HKr := Lib.hid hK
      obtain ⟨gk3, ok3, ck3, hv3, hg3, hc3⟩ := hK.rd.at (by omega)
      cases hv3
      have hcp := hc3 p _ (get_ints hpl)
      have hMr := (R0.out.2.2.2.2.cell (p := ⟨w.heap.size, 0, none⟩) (addr_of_cell M5.out).2 (by have := HO.out.2.1; simp; omega)).trans M5.out
      have hkr : InR K[p] := H5.out.good.kr _ (List.getElem_mem hpl)
      obtain ⟨k, hk⟩ : ∃ k, k = K[p] := ⟨_, rfl⟩
      rw [← hk] at hcp hkr
      have HKK := Lib.hid hk
      clear hk hK hc3
      have q0 : ¬ (K.length : Int) = 0 := by omega
      go_wp2_with fail
      refine (goes_any hmay k hkr _ (hU5.out.new R0.out.2.2.2.2 (fun i hi e => by have := HO.out.2.1; omega)) w.heap.size hMr).mono ?_
      rintro e w6 ⟨rfl, hb6⟩
      have hA6 := Lib.hid (R0.out.1.keep (Upd.of_below (S := fun _ => False) hb6) (fun h => h))
      have HU6 := Lib.hid (R0.out.2.2.2.2.trans (Upd.of_below hb6))
      clear hb6 hcp hMr hg3
      rcases hmb : fm k with _ | _
      · have HM := Lib.hid hmb
        clear hmb
        go_wp2
        go_roundg (gk - 1)
        case measure => omega
        case rel => 
          refine ⟨h + 1, by omega, by go_num, A2, hA6.out, R0.out.2.1, ⟨by omega, (evGo_skip (by omega) HKK.out HP.out HM.out).symm.trans R0.out.2.2.1.2⟩, fun j hj hjh => ?_, HU6.out⟩
          by_cases h0 : j < h
          · exact R0.out.2.2.2.1 j hj h0
          · have hp0 : p = j := by rw [HP.out, show h = j by omega]; exact Nat.mod_eq_of_lt hj
            subst hp0
            rw [← HKK.out]
            exact ⟨.inl HM.out, fun e => by rw [HM.out] at e; cases e⟩
      · have HM := Lib.hid hmb
        clear hmb
        go_wp2_with fail
        refine (wasAsked_any hA6.out k hkr).mono ?_
        rintro e w7 ⟨rfl, hb7⟩
        have hA7 := Lib.hid (hA6.out.keep (Upd.of_below (S := fun _ => False) hb7) (fun h => h))
        have HU7 := Lib.hid (HU6.out.trans (Upd.of_below hb7))
        clear hb7
        rcases hask : A2 k with _ | _
        · have HA := Lib.hid hask
          clear hask
          go_wp2
          simp only [hmod]
          clear hmod
          have hz7 : w.heap.size < w7.heap.size := by have := HU7.out.size; have := hU5.out.size; have := HO.out.2.1; have := HA5.out.lt; omega
          have H7 := Lib.hid (H5.out.keep HU7.out (fun j hj e => by subst e; have := H.out.slt _ hj; have := HO.out.2.1; omega))
          have hK7 : Sl w7 3 1 (.slice (some ⟨gk3, ok3, none⟩) K.length ck) K.length (ints K) := HK5.out.keep HU7.out (fun g hg e => by have := HO.out.1 g hg; omega)
          obtain ⟨_, ⟨h1, h2⟩ | ⟨g9, o9, c9, cur, h1, hg9, hn9, hm9, hz9, hc9⟩⟩ := hK7
          · cases h1
          cases h1
          obtain ⟨Aa, hAa, hsrc⟩ : ∃ Aa : Addr, (if ck = p + 1 then some (⟨gk3, ok3, none⟩ : Addr) else some ⟨gk3, ok3 + (p + 1), none⟩) = some Aa ∧ Hid (∀ W, Upd (fun _ => False) w7 W → Rd W 1 (.slice (some Aa) (K.length - (p + 1)) (ck - (p + 1))) (K.drop (p + 1)).length (ints (K.drop (p + 1)))) := by
            have hml : K.length ≤ maxLen := by omega
            by_cases e : ck = p + 1
            · rw [if_pos e]
              refine ⟨_, rfl, fun W hW => Rd.keep (rd_from hg9 hc9 hml _ (p + 1) (if_pos e) rfl (fun _ => by omega) _) hW (fun _ _ h => h)⟩
            · rw [if_neg e]
              refine ⟨_, rfl, fun W hW => Rd.keep (rd_from hg9 hc9 hml _ (p + 1) (if_neg e) rfl (fun h => absurd h e) _) hW (fun _ _ h => h)⟩
          have hRb : Hid (∀ W, Upd (fun _ => False) w7 W → Rd W 1 (.slice (some ⟨gk3, ok3, none⟩) p ck) (K.take p).length (ints (K.take p))) := fun W hW => Rd.keep (rd_take hg9 hc9 (by omega) p (by omega) _) hW (fun _ _ h => h)
          have u1 : Hid (Upd (fun _ => False) w7 (w7.alloc (.cells #[.slice (some Aa) (K.length - (p + 1)) (ck - (p + 1)), .slice (some ⟨gk3, ok3, none⟩) p ck] 87)).drew) := ((Upd.refl _ _).alloc _).drew
          have u2 : Hid ((w7.alloc (.cells #[.slice (some Aa) (K.length - (p + 1)) (ck - (p + 1)), .slice (some ⟨gk3, ok3, none⟩) p ck] 87)).drew.heap[w7.heap.size]? = some (.cells #[.slice (some Aa) (K.length - (p + 1)) (ck - (p + 1)), .slice (some ⟨gk3, ok3, none⟩) p ck] 87 (0, 0))) := heap_alloc_last _ _ rfl
          have hlen : Hid ((K.drop (p + 1)).length + (K.take p).length ≤ 4096) := by show (K.drop (p + 1)).length + (K.take p).length ≤ 4096; rw [List.length_drop, List.length_take]; omega
          have k1 : ¬ p + 1 > ck := by omega
          have hic : p ≤ ck := by omega
          have hjc : p + 1 ≤ ck := by omega
          have hj0 : (0 : Int) ≤ (p : Int) + 1 := by omega
          have hj1 : (p : Int) + 1 ≤ (K.length : Int) := by omega
          have hj2 : 0 ≤ (p : Int) + 1 ∧ (p : Int) + 1 ≤ (K.length : Int) := ⟨hj0, hj1⟩
          have hwr : IntKind.i64.wrap ((p : Int) + 1) = (p : Int) + 1 := IntWalk.i64_in _ (by omega)
          have htn : ((p : Int) + 1).toNat = p + 1 := by omega
          have hlk : Hid ((K.drop (p + 1)).length + (K.take p).length = (restK K p).length) := by show _ = _; unfold restK; rw [List.length_append]
          have hli : Hid (ints (K.drop (p + 1)) ++ ints (K.take p) = ints (restK K p)) := by show _ = _; unfold restK; rw [ints_append]
          clear hc9 hg9 hz9 hm9
          go_region_with (go_at_call 237; refine (concat_two u2.out (hsrc.out _ u1.out) (hRb.out _ u1.out) hlen.out).mono ?_; rintro e w8 ⟨v8, rfl, hs8, hf8, hb8⟩; rw [hlk.out, hli.out] at hs8; obtain ⟨ao8, c8, rfl⟩ := hs8.rd.nil_iff; have hU8 := Lib.hid (u1.out.trans (Upd.of_below hb8)); have H8 := H7.out.keep hU8.out (fun _ _ h => h); have s2 := H8.c.2.2.1; have f2 := H8.fz 2; have H8 := Lib.hid H8)
          have hz8 : w7.heap.size ≤ w8.heap.size := hU8.out.size
          have hF8 : ∀ g, (Value.slice ao8 (restK K p).length c8).ownBlock = some g → w7.heap.size ≤ g ∧ g < w8.heap.size := fun g hg => ⟨by have := hf8 g hg; simp at this; omega, hs8.lt hg⟩
          have hstr8 := H8.out.str
          have hG8 := HG5.out.keep (HU7.out.trans (hU8.out.mono (fun _ _ h => h.elim))) (fun g hg e => by have := HO.out.2.2 g hg; omega)
          have hA8 := hA7.out.keep hU8.out (fun h => h)
          obtain ⟨v8, hv8⟩ : ∃ v8, v8 = Value.slice ao8 (restK K p).length c8 := ⟨_, rfl⟩
          have P8 := Lib.hid (And.intro hs8 (And.intro hF8 (And.intro hstr8 (And.intro hG8 (And.intro hA8 hv8)))))
          clear hs8 hF8 hf8 hb8 hG8 hA8 hstr8 s2 f2
          rw [← hv8]
          clear hv8
          have hbv8 : v8.ownBlock ≠ some b := by rw [P8.out.2.2.2.2.2]; intro e; have := (P8.out.2.1 b e).1; omega
          have hbv5 : (Value.slice aog G.length cg).ownBlock ≠ some b := by intro e; have := HO.out.2.2 b e; have := HO.out.2.1; omega
          have hbmb : mb2 ≠ b := by have := HO.out.2.1; omega
          have str9 := heap_setCell_same P8.out.2.2.1 2 v8
          have ks9 := (P8.out.2.2.2.2.2 ▸ P8.out.1 : Sl w8 3 1 v8 (restK K p).length (ints (restK K p))).keep_ne (upd_setCell w8 b 2 v8) hbv8
          have gs9 := P8.out.2.2.2.1.keep_ne (upd_setCell w8 b 2 v8) hbv5
          have as9 := P8.out.2.2.2.2.1.keep (upd_setCell w8 b 2 v8) hbmb
          have U9 : Upd (fun j => j = b) w (w8.setCell ⟨b, 2, none⟩ v8) :=
            Upd.trans (Upd.new hU5.out (HU7.out.trans (hU8.out.mono (fun _ _ h => h.elim))) (fun i hi e => by have := HO.out.2.1; omega)|>.mono (fun _ _ h => h.elim)) (upd_setCell w8 b 2 v8)
          have hz9 : w8.heap.size = (w8.setCell ⟨b, 2, none⟩ v8).heap.size := by simp
          generalize w8.setCell ⟨b, 2, none⟩ v8 = w9 at *
          have s3 := cell_of_block str9 3
          have f3 := frozen_of_block str9 3
          simp at s3
          have Q9 := Lib.hid (And.intro str9 (And.intro ks9 (And.intro gs9 (And.intro as9 (And.intro U9 hz9)))))
          clear str9 ks9 gs9 as9 U9 hz9
          have G10 := Lib.hid (Q9.out.2.2.1.keep_ne (upd_setCell w9 b 3 (.map (some mb2))) hbv5)
          have hm1 : Hid (G.length + 1 ≤ maxLen) := by show G.length + 1 ≤ maxLen; unfold maxLen; omega
          have hm2 : Hid ((G.length + 1) * 8 ≤ 140737488355328) := by show _ ≤ _; omega
          have hone : Hid (∀ u ∈ [Value.int .i64 k], u.oneCell' = true) := by intro u hu; simp at hu; subst hu; rfl
          have hx10 : Hid (Value.slice (some ⟨w9.heap.size, 0, none⟩) 1 1 = .slice (some ⟨(w9.setCell ⟨b, 3, none⟩ (.map (some mb2))).heap.size, 0, none⟩) 1 1) := by show _ = _; simp
          go_wp2_with (at_builtin; refine wpList_append_one rfl (.tmp 82) (.tmp 84) 87 rfl i0 (.int .i64 0) 8 Tryz.underlying87 hi0 hz0 hz1' hz2 rfl (by decide) rfl G10.out [.int .i64 k] hx10.out rfl hone.out hm1.out hm2.out ?_)
          intro v11 w11 hs11 hu11 hbf11
          obtain ⟨ao11, c11, rfl⟩ := hs11.rd.nil_iff
          have hz10 : w9.heap.size = (w9.setCell ⟨b, 3, none⟩ (.map (some mb2))).heap.size := by simp
          have hob11 : ∀ g, (Value.slice ao11 (G.length + 1) c11).ownBlock = some g → mb2 < g ∧ (g < w7.heap.size ∨ w8.heap.size ≤ g) := by
            intro g hg
            have ht := HG5.out.lt (g := g)
            have hsz := HU7.out.size
            rcases hbf11 with e | ⟨g', e, hge⟩
            · rw [e] at hg
              exact ⟨HO.out.2.2 g hg, .inl (by have := ht hg; omega)⟩
            · rw [e] at hg; cases hg
              have := Q9.out.2.2.2.2.2
              have := HA5.out.lt
              exact ⟨by omega, .inr (by omega)⟩
          have str10 := heap_setCell_same Q9.out.1 3 (.map (some mb2))
          have str11 := (hu11.block b (lt_of_block str10) (fun e => hbv5 e)).trans str10
          have str12 := heap_setCell_same str11 4 (.slice ao11 (G.length + 1) c11)
          have s4 := cell_of_block str11 4
          have f4 := frozen_of_block str11 4
          simp at s4
          have hd58 : Dis v8 (Value.slice aog G.length cg) := fun g h1 h2 => by
            have := (P8.out.2.1 g (by rw [← P8.out.2.2.2.2.2]; exact h1)).1; have := HG5.out.lt h2; have := HU7.out.size; omega
          have hb11 : (Value.slice ao11 (G.length + 1) c11).ownBlock ≠ some b := fun e => by have := (hob11 b e).1; have := HO.out.2.1; omega
          have ks12 := ((Q9.out.2.1.keep_ne (upd_setCell w9 b 3 (.map (some mb2))) hbv8).keep_dis hd58 hu11).keep_ne (upd_setCell w11 b 4 (.slice ao11 (G.length + 1) c11)) hbv8
          have gs12 := hs11.keep_ne (upd_setCell w11 b 4 (.slice ao11 (G.length + 1) c11)) hb11
          have as12 := ((Q9.out.2.2.2.1.keep (upd_setCell w9 b 3 (.map (some mb2))) hbmb).keep hu11 (fun e => by have := HO.out.2.2 mb2 e; omega)).keep (upd_setCell w11 b 4 (.slice ao11 (G.length + 1) c11)) hbmb
          have U12 := (((Q9.out.2.2.2.2.1.trans (upd_setCell w9 b 3 (.map (some mb2)))).new hu11 (fun i hi e => by have := HO.out.2.2 i e; have := HO.out.2.1; omega))).trans (upd_setCell w11 b 4 (.slice ao11 (G.length + 1) c11))
          have e12 : ints G ++ [.int .i64 k] = ints (G ++ [k]) := by simp
          rw [e12] at gs12
          have M12 : CkMem (w11.setCell ⟨b, 4, none⟩ (.slice ao11 (G.length + 1) c11)) b mb2 N v8 (.slice ao11 (G.length + 1) c11) most few (restK K p) A2 (G ++ [k]) := {
            str := by simpa using str12
            ks := ks12
            gs := by simpa using gs12
            set := as12
            kb := hbv8
            gb := hb11
            km := fun e => by have := (P8.out.2.1 mb2 (by rw [← P8.out.2.2.2.2.2]; exact e)).1; have := HA5.out.lt; have := HU7.out.size; omega
            gm := fun e => by have := (hob11 mb2 e).1; omega
            bm := hbmb
            kg := fun g h1 h2 => by
              have h3 := P8.out.2.1 g (by rw [← P8.out.2.2.2.2.2]; exact h1)
              have h4 := (hob11 g h2).2
              omega }
          have HM12 := Lib.hid M12
          have HU12 := Lib.hid U12
          clear M12 U12 as12 gs12 ks12 e12 hbf11 hu11 hs11 str10 str11 str12 hb11 hd58
          go_wp2
          generalize w11.setCell ⟨b, 4, none⟩ (.slice ao11 (G.length + 1) c11) = w12 at *
          have c12 := HM12.out.c
          have c12a := c12.2.1
          have c12b := c12.2.2.2.2
          clear c12 s4 f4 s3 f3
          have HV : Hid (EvYes fm few K A G k (restK K p) A2 (trimG few (G ++ [k]))) := by
            refine ⟨⟨p, hpl, HKK.out, rfl, fun hx => ?_, ?_, fun j hj hjp e => (R0.out.2.2.2.1 j hj (by have := Nat.mod_le h K.length; rw [← HP.out] at this; omega)).2 e⟩, rfl, HA.out, R0.out.2.1⟩
            · by_cases h0 : h = 0
              · refine ⟨?_, R0.out.2.2.1.1 h0⟩
                rw [HP.out, h0]; exact Nat.zero_mod _
              · have hh0 : K.head? = some K[0] := by rw [List.head?_eq_getElem?]; exact List.getElem?_eq_getElem (by omega)
                have h1 := (R0.out.2.2.2.1 0 (by omega) (by omega)).1
                have h2 := hx _ hh0
                rw [h2.1, h2.2] at h1
                simp at h1
            · by_cases h0 : h = 0
              · exact .inl ⟨by rw [HP.out, h0]; exact Nat.zero_mod _, R0.out.2.2.1.1 h0⟩
              · right
                by_cases h1 : h < K.length
                · left; rw [HP.out, Nat.mod_eq_of_lt h1]; omega
                · right
                  intro x hx
                  obtain ⟨j, hj, rfl⟩ := List.getElem_of_mem hx
                  exact (R0.out.2.2.2.1 j hj (by omega)).1
          have HE : Hid (evR fm few K A G = (k, 0, restK K p, A2, trimG few (G ++ [k]))) := by
            show _ = _
            have e : K.getD p 0 = k := by rw [HKK.out]; simp [hpl]
            unfold evR
            rw [← R0.out.2.2.1.2, evGo_yes (by omega) HKK.out HP.out HM.out HA.out]
            simp only [e]
          have hob : Hid (∀ (v13 : Value), (v13.ownBlock = (Value.slice ao11 (G.length + 1) c11).ownBlock) → ∀ j, ckS b mb2 v8 v13 j → ckS b mb vk vg j ∨ w.heap.size ≤ j) := by
            intro v13 hv j hj
            rcases hj with rfl | rfl | hj | hj
            · exact .inl (.inl rfl)
            · right; have := HO.out.2.1; omega
            · right; have := (P8.out.2.1 j (by rw [← P8.out.2.2.2.2.2]; exact hj)).1; omega
            · right; rw [hv] at hj; have := (hob11 j hj).1; have := HO.out.2.1; omega
          by_cases hf : few < G.length + 1
          · have qf : decide ((few : Int) < (G.length : Int) + 1) = true := by simp; omega
            go_quiet (fail)
            generalize hw13 : w12.drewN nq = w13
            have hu13 : Upd (fun _ => False) w12 w13 := by rw [← hw13]; exact (Upd.refl _ _).drewN _
            have M13 := Lib.hid (HM12.out.keep hu13 (fun _ _ h => h))
            have HU13 := Lib.hid (HU12.out.trans (hu13.mono (fun _ _ h => h.elim)))
            clear hw13 hu13 c12a c12b
            have c13 := M13.out.c.2.2.2.2
            have hl13 : Hid (0 < (G ++ [k]).length ∧ (G ++ [k]).length ≤ 4096 ∧ (G ++ [k]).tail = trimG few (G ++ [k])) := by
              refine ⟨by simp, by simp; omega, ?_⟩
              unfold trimG; rw [if_pos (by simp; omega)]
            go_wp2_with fail
            refine (del_first M13.out.gs hl13.out.2.1 hl13.out.1).mono ?_
            rintro e w14 ⟨ao14, n14, c14, rfl, hbe, hs14, hu14⟩
            have M15 := Lib.hid (M13.out.setGhosts hu14 hs14 (.inl hbe))
            have U15 : Hid (Upd (fun j => j = b) w (w14.setCell ⟨b, 4, none⟩ (.slice ao14 n14 c14))) :=
              (HU13.out.new hu14 (fun i hi e => by have := (hob11 i e).1; have := HO.out.2.1; omega)).trans (upd_setCell _ _ _ _)
            have hstr14 := (hu14.block b (lt_of_block M13.out.str) (fun e => M13.out.gb e)).trans M13.out.str
            have s14 := cell_of_block hstr14 4
            have f14 := frozen_of_block hstr14 4
            simp at s14
            have HB14 := Lib.hid hbe
            clear hu14 hs14 hbe hstr14 c13
            dsimp only
            clear hwr htn hAa
            go_wp2
            rw [Exit.noGoto_ret]
            go_ret2
            refine ⟨k, 0, restK K p, A2, trimG few (G ++ [k]), mb2, v8, _, rfl, ⟨.inr ⟨rfl, HV.out⟩, HE.out⟩, ?_, hob.out _ HB14.out, U15.out⟩
            rw [← hl13.out.2.2]; exact M15.out
          · have qf : decide ((few : Int) < (G.length : Int) + 1) = false := by simp; omega
            go_quiet (fail)
            have hT : Hid (G ++ [k] = trimG few (G ++ [k])) := by show _ = _; unfold trimG; rw [if_neg (by simp; omega)]
            go_wp2
            rw [Exit.noGoto_ret]
            go_ret2
            refine ⟨k, 0, restK K p, A2, trimG few (G ++ [k]), mb2, v8, _, rfl, ⟨.inr ⟨rfl, HV.out⟩, HE.out⟩, ?_, hob.out _ rfl, HU12.out.drewN _⟩
            rw [← hT.out]; exact HM12.out.keep ((Upd.refl (fun _ => False) _).drewN _) (fun _ _ h => h)
        · have HA := Lib.hid hask
          clear hask
          obtain ⟨w8, hrun, hs8, hu8, hz8⟩ := SetAt.drop hA7.out (x := k) hkr 0
          have R8 := Lib.hid (And.intro hs8 hu8)
          clear hs8 hu8 hz8
          go_wp2
          go_roundg (gk - 1)
          case measure => omega
          case rel => 
            refine ⟨h + 1, by omega, by go_num, updB A2 k false, R8.out.1, ?_, ⟨by omega, (evGo_ask (by omega) HKK.out HP.out HM.out HA.out).symm.trans R0.out.2.2.1.2⟩, fun j hj hjh => ?_, HU7.out.trans R8.out.2⟩
            · intro x hx
              by_cases e : x = k
              · subst e; simp [updB] at hx
              · simp only [updB, if_neg e] at hx; exact R0.out.2.1 x hx
            · by_cases h0 : j < h
              · refine ⟨(R0.out.2.2.2.1 j hj h0).1, fun e => ?_⟩
                unfold updB; split
                · rfl
                · exact (R0.out.2.2.2.1 j hj h0).2 e
              · have hp0 : p = j := by rw [HP.out, show h = j by omega]; exact Nat.mod_eq_of_lt hj
                subst hp0
                rw [← HKK.out]; exact ⟨.inr (R0.out.2.1 k HA.out), fun _ => by simp [updB]⟩
    · have he : Hid (∀ x ∈ K, fm x = false ∨ A x = true) := by
        intro x hx
        obtain ⟨j, hj, rfl⟩ := List.getElem_of_mem hx
        exact (R0.out.2.2.2.1 j hj (by omega)).1
      have hE : Hid (evR fm few K A G = (0, 14, K, A, G)) := by
        show _ = _
        unfold evR
        rw [← R0.out.2.2.1.2, show gk = 0 by omega]
        rfl
      have hM : Hid (CkMem wr b mb N vk vg most few K A G) := (H5.out.keep R0.out.2.2.2.2 (fun j hj e => by subst e; have := H.out.slt _ hj; have := HO.out.2.1; omega)).toCkMem
      have hU : Hid (Upd (fun j => j = b) w wr) := (hU5.out.new R0.out.2.2.2.2 (fun i hi e => by have := HO.out.2.1; omega)).mono (fun _ _ h => h.elim)
      go_wp2
      rw [Exit.noGoto_ret]
      go_ret2
      exact ⟨0, 14, K, A, G, mb, vk, vg, rfl, ⟨.inl ⟨rfl, rfl, rfl, rfl, rfl, he.out⟩, hE.out⟩, hM.out, fun j hj => .inl hj, hU.out⟩
theorem evict_ck {S : Nat → Prop} {w : World} {b N most few : Nat} {K G : List Int} {A : Int → Bool} (h : Ck S w b N most few K A G) (hn : ∀ j, w.heap.size ≤ j → S j) (xv : Value) (fm : Int → Bool) (hmay : MayIs xv fm w) :
    Calls Tryz.prog 165 #[.pointer (some ⟨b, 0, none⟩), mayV xv] w fun e w' => ∃ key code K' A' G', e = .returned (.tuple #[.int .i64 key, .int .i64 code]) ∧
      EvOut fm few K A G key code K' A' G' ∧ Ck S w' b N most few K' A' G' ∧ Upd S w w' := by
  obtain ⟨mb, vk, vg, h, hS⟩ := h
  refine (evict_at h xv fm hmay).mono ?_
  rintro e w' ⟨key, code, K', A', G', mb', vk', vg', rfl, ho, hm, hb, hu⟩
  exact ⟨key, code, K', A', G', rfl, ho, ⟨mb', vk', vg', ⟨hm, ho.good h.good⟩, fun j hj => (hb j hj).elim (hS j) (hn j)⟩, hu.mono (fun j _ hj => by subst hj; exact hS _ (.inl rfl))⟩
end Go.Proofs.YtfhfbpmlnjdfoaaGreatDoor.EvG
namespace Go.Proofs.YtfhfbpmlnjdfoaaGreatDoor
open Go Go.RowKit
def KevOut (own : Nat → Nat) (w : World) (c : Nat) (n : CaN) (p : CaP) (a : CaS) (e : Ending) (w' : World) : Prop :=
  ∃ key code K' A' H', e = .returned (.tuple #[.int .i64 key, .int .i64 code]) ∧ EvG.EvOut (cleanB a.ps) n.sl a.K a.A a.H key code K' A' H' ∧ ∃ own', CaAt own' w' c n p { a with K := K', A := A', H := H' } ∧ Did own own' w w'
section
variable {own : Nat → Nat} {w w' : World} {c : Nat} {n : CaN} {p : CaP} {a : CaS}
theorem ca_mayIs (h : CaAt own w c n p a) : EvG.MayIs (ptr c) (cleanB a.ps) w := fun _ k _ hu => ca_isclean (h.new hu) k
theorem ca_kevict (h : CaAt own w c n p a) : Calls Tryz.prog 165 #[ptr p.ck, EvG.mayV (ptr c)] w (KevOut own w c n p a) :=
  (EvG.evict_ck h.open8 (fun _ h => .inr h) (ptr c) (cleanB a.ps) (ca_mayIs h)).mono fun _ _ ⟨key, code, K', A', H', he, ho, hc, hu⟩ => ⟨key, code, K', A', H', he, ho, _, h.turn8 hu hc, h.did8 hu⟩
end
abbrev CaS.noted (n : CaN) (a : CaS) (op block slot : Int) (d : Bool) (sum : Int) : CaS := { a with next := a.next + 1, W := a.W ++ [(a.next, sectR (jaddX a.next n.jo op block slot d sum))] }
abbrev CaS.left (n : CaN) (a : CaS) (k : Int) : CaS := { a.noted n 1 k 0 false 0 with ps := dropL a.ps k, sums := upd1 a.sums k none, st := turnList a.st (getV a.ps k).1 3 }
set_option maxRecDepth 100000 in
set_option maxHeartbeats 1000000 in
theorem ca_leave {own : Nat → Nat} {w : World} {c : Nat} {n : CaN} {p : CaP} {a : CaS} (h : CaAt own w c n p a) (k : Int) (hg : getC a.ps k = 0) (hroom : a.next ≤ a.cov + n.jo) (hmx : a.next ≤ 1099511627776) (hmay : mayR (jaddX a.next n.jo 1 k 0 false 0) = true) :
    Calls Tryz.prog 167 #[ptr c, .int .i64 k] w (CaOut own w c n p (a.left n k) (.int .i64 (turnCode a.st (getV a.ps k).1 3))) := by
  have hkr : 0 ≤ k ∧ k < 4096 := by
    have h1 := h.pl
    have h2 := h.ok.b2
    unfold getC at hg
    split at hg
    · cases hg
    · omega
  obtain ⟨hk0, hk1⟩ := hkr
  have HJ := Lib.hid (ca_jadd h hroom hmx 0 0 1 k 0 false 0 hmay)
  obtain ⟨-, -, -, d3, d4, -, -, -, -⟩ := h.cells
  have H := Lib.hid (And.intro h hg)
  clear h hg hroom hmx hmay
  go_enter Tryz.func167, Tryz.ntmps167
  go_wp2_with fail
  refine HJ.out.mono ?_
  rintro e w1 ⟨rfl, own1, h1, hd1⟩
  have HP := Lib.hid (ca_drop h1 k)
  obtain ⟨-, -, -, -, e4, -, -, -, -⟩ := h1.cells
  have H1 := Lib.hid hd1
  clear h1 hd1 HJ d3 d4
  go_wp2_with fail
  refine HP.out.mono ?_
  rintro e w2 ⟨rfl, own2, h2, hd2⟩
  have hg := H.out.2
  obtain ⟨s, hs⟩ : ∃ s, s = (getV a.ps k).1 := ⟨_, rfl⟩
  obtain ⟨db, hdb⟩ : ∃ db, db = (getV a.ps k).2 := ⟨_, rfl⟩
  rw [hg]
  have hua : Upd (fun _ => False) w2 (w2.alloc (.cells #[.int .i64 s, .bool db] 95)) := (Upd.refl _ _).alloc _
  have h2a := h2.new hua
  have c0 : (w2.alloc (.cells #[.int .i64 s, .bool db] 95)).cell? ⟨w2.heap.size, 0, none⟩ = some (.int .i64 s) := cell_of_block (heap_alloc_last w2 _ rfl) 0
  have hm2 : own2 w2.heap.size = 0 := h2.far _ (Nat.le_refl _)
  have hdall := (H1.out.trans hd2).trans (h2.didNew hua)
  rw [← hs, ← hdb]
  obtain ⟨w3, own3, hrun, h3, hd3⟩ := ca_del h2a (x := k) (by omega) (by omega) 0
  obtain ⟨-, -, -, -, -, -, -, -, f8⟩ := h2a.cells
  obtain ⟨-, -, -, -, -, g5, -, -, -⟩ := h3.cells
  have c3 := hd3.upd.cellv c0 (fun h => h.1 hm2)
  obtain ⟨m, hm⟩ : ∃ m, m = w2.heap.size := ⟨_, rfl⟩
  have HO : Hid (own3 m = 0) := (hd3.old m (by rw [hm]; simp)).trans (by rw [hm]; exact hm2)
  have HD := Lib.hid (And.intro h3 (And.intro (hdall.trans hd3) hs))
  have HM := Lib.hid hm
  rw [← hm] at c3
  clear hua h2a c0 hm2 hdall h3 hd3 h2 hd2 HP hg hs hdb hm
  go_upto_region 8 with fail
  rw [← HM.out]
  refine wp_region_held_drew (S := fun W => W.cell? ⟨c, 19, none⟩ = some (ptr p.ss) ∧ W.cell? ⟨m, 0, none⟩ = some (.int .i64 s)) (by kernel_rfl) (by (simp only [World.cell?_drew]); exact ⟨g5, c3⟩) (fun hHeld => ?_)
  refine Wl.i [0, 1, 2, 3, 4, 5] ?_; iterate 6 refine Wl.t hHeld ?_
  refine Wl.o ?_
  refine Wl.r 6 (fun K hK => ?_)
  go_simp
  have HT := Lib.hid (ca_turn (HD.out.1.new ((Upd.refl (fun _ => False) w3).drew)) s 3)
  refine HT.out.mono ?_
  rintro e w4 ⟨rfl, own4, h4, hd4⟩
  obtain ⟨-, -, -, -, -, i5, -, -, -⟩ := h4.cells
  have c4 := hd4.upd.cellv (show w3.drew.cell? ⟨m, 0, none⟩ = some (.int .i64 s) by rw [World.cell?_drew]; exact c3) (fun h => h.1 HO.out)
  have H4 := Lib.hid (And.intro h4 hd4)
  clear h4 hd4
  refine hK.out _ _ (⟨i5, c4⟩) (fun hH1 => ?_)
  clear hK K
  refine Wl.r 7 (fun K hK => ?_)
  go_simp
  refine hK.out _ _ (hH1) (fun hH2 => ?_)
  clear hK K
  refine Wl.d ?_
  go_wp2
  go_ret
  have hs := HD.out.2.2
  subst hs
  exact ⟨rfl, own4, H4.out.1, (HD.out.2.1.drew).trans H4.out.2⟩
abbrev CaS.dropped (n : CaN) (a : CaS) (k : Int) : CaS := { a.left n k with K := a.K.erase k, A := dropA a.K a.A k }
set_option maxRecDepth 100000 in
theorem ca_cdrop_no {own : Nat → Nat} {w : World} {c : Nat} {n : CaN} {p : CaP} {a : CaS} (h : CaAt own w c n p a) (k : Int) (hg : getC a.ps k ≠ 0) :
    Calls Tryz.prog 230 #[ptr c, .int .i64 k] w (CaOut own w c n p a (.int .i64 0)) := by
  have HG := Lib.hid (ca_get h k)
  obtain ⟨-, -, -, -, d4, -, -, -, -⟩ := h.cells
  clear h
  have q0 : (getC a.ps k == 0) = false := by simpa using hg
  go_enter Tryz.func230, Tryz.ntmps230
  go_wp2_with fail
  refine HG.out.mono ?_
  rintro e w1 ⟨rfl, own1, h1, hd1⟩
  have H1 := Lib.hid (And.intro h1 hd1)
  clear h1 hd1 HG d4
  generalize getV a.ps k = pv at *
  generalize getC a.ps k = cd at *
  obtain ⟨s, b⟩ := pv
  go_wp2
  go_ret
  have hu := (Upd.refl (fun _ => False) w1).alloc (.cells #[.int .i64 s, .bool b] 95)
  exact ⟨rfl, own1, H1.out.1.new hu, H1.out.2.trans (H1.out.1.didNew hu)⟩
set_option maxRecDepth 100000 in
theorem ca_cdrop_yes {own : Nat → Nat} {w : World} {c : Nat} {n : CaN} {p : CaP} {a : CaS} (h : CaAt own w c n p a) (k : Int) (hg : getC a.ps k = 0) (hroom : a.next ≤ a.cov + n.jo) (hmx : a.next ≤ 1099511627776) (hmay : mayR (jaddX a.next n.jo 1 k 0 false 0) = true)
    (ht : turnCode a.st (getV a.ps k).1 3 = 0) :
    Calls Tryz.prog 230 #[ptr c, .int .i64 k] w (CaOut own w c n p (a.dropped n k) (.int .i64 (touchC a.K k))) := by
  have HG := Lib.hid (ca_get h k)
  obtain ⟨-, -, -, -, d4, -, -, -, -⟩ := h.cells
  have HR := Lib.hid (And.intro hg (And.intro hroom (And.intro hmx (And.intro hmay ht))))
  rw [hg] at HG
  clear h hg hroom hmx hmay ht
  go_enter Tryz.func230, Tryz.ntmps230
  go_wp2_with fail
  refine HG.out.mono ?_
  rintro e w1 ⟨rfl, own1, h1, hd1⟩
  obtain ⟨s, hs⟩ : ∃ s, s = (getV a.ps k).1 := ⟨_, rfl⟩
  obtain ⟨b, hb⟩ : ∃ b, b = (getV a.ps k).2 := ⟨_, rfl⟩
  have hu := (Upd.refl (fun _ => False) w1).alloc (.cells #[.int .i64 s, .bool b] 95)
  obtain ⟨w2, hw2⟩ : ∃ w2, w2 = w1.alloc (.cells #[.int .i64 s, .bool b] 95) := ⟨_, rfl⟩
  rw [← hw2] at hu
  have h2 := h1.new hu
  have HD := Lib.hid (hd1.trans (h1.didNew hu))
  have HL := Lib.hid (ca_leave h2 k HR.out.1 HR.out.2.1 HR.out.2.2.1 HR.out.2.2.2.1)
  have HW := Lib.hid hw2
  rw [← hs, ← hb]
  clear h1 hd1 HG d4 hu h2 hs hb hw2
  go_wp2_with fail
  rw [← HW.out]
  refine HL.out.mono ?_
  rw [HR.out.2.2.2.2]
  rintro e w3 ⟨rfl, own3, h3, hd3⟩
  obtain ⟨-, -, -, -, -, -, -, d7, -⟩ := h3.cells
  have HK := Lib.hid (ca_kdrop h3 k)
  have H3 := Lib.hid (HD.out.trans hd3)
  clear h3 hd3 HL
  go_wp2_with fail
  refine HK.out.mono ?_
  rintro e w4 ⟨rfl, own4, h4, hd4⟩
  have H4 := Lib.hid (And.intro h4 hd4)
  clear h4 hd4 d7 HK
  go_wp2
  go_ret
  exact ⟨rfl, own4, H4.out.1, H3.out.trans H4.out.2⟩
def free (l : List Int) : Nat := l.findIdx (· == 0)
theorem free_le (l : List Int) : free l ≤ l.length := List.findIdx_le_length
theorem free_hit {l : List Int} {k : Nat} (h : k ≤ free l) (hk : k < l.length) (h0 : l[k] = 0) : free l = k := by
  rcases Nat.lt_or_ge k (free l) with hlt | hge
  · have := List.not_of_lt_findIdx hlt; simp [h0] at this
  · omega
theorem free_step {l : List Int} {k : Nat} (h : k ≤ free l) (hk : k < l.length) (h0 : l[k] ≠ 0) : k + 1 ≤ free l := by
  rcases Nat.lt_or_ge k (free l) with hlt | hge
  · exact hlt
  · exfalso
    have he : free l = k := by omega
    have hl : l.findIdx (· == 0) < l.length := by show free l < _; omega
    have h1 := List.findIdx_getElem (w := hl)
    have h2 : l[k] == 0 := by
      have : l.findIdx (· == 0) = k := he
      simp only [this] at h1
      exact h1
    exact h0 (by simpa using h2)
def allocVal (l : List Int) : Int := if free l < l.length then free l else 0
def allocCode (l : List Int) : Int := if free l < l.length then 0 else 17
def allocList (l : List Int) : List Int := l.set (free l) 1
theorem madeZeros (n : Nat) : madeCells #[Value.int .i64 0] (n * 1) = (ints (List.replicate n 0)).toArray := by
  apply Array.ext
  · simp [size_madeCells]
  · intro i h1 h2
    have : i % 1 = 0 := Nat.mod_one i
    simp [madeCells, ints, this]
theorem infoI : (Tryz.prog.info? 3).map (fun i => (i.zero, i.size, i.bytes)) = some (some (.int .i64 0), 1, 8) := by kernel_rfl
abbrev TS : TypeId := 327
theorem snew_ok (n : Nat) (w : World) (h1 : 1 ≤ n) (h2 : n ≤ 1024) :
    Calls Tryz.prog 133 #[.int .i64 n] w fun e w' => e = .returned (.tuple #[ptrAt (w.heap.size + 1), .int .i64 0]) ∧
      SlotsAt TS w' (w.heap.size + 1) (.slice (some ⟨w.heap.size, 0, none⟩) n n) (List.replicate n 0) ∧ Below w.heap.size w w' ∧ w'.heap.size = w.heap.size + 2 := by
  obtain ⟨i0, hi, hz0, hz1, hz2⟩ := info_parts infoI
  have hmk : ∀ w : World, (Instr.makeSlice 87 (.int .i64 n) (.int .i64 n)).run Tryz.prog w = .ok (.slice (some ⟨w.heap.size, 0, none⟩) n n) (w.alloc (.cells (ints (List.replicate n 0)).toArray 3)) := by
    intro w
    have := run_make (P := Tryz.prog) w 87 3 i0 (.int .i64 0) Tryz.underlying87 hi hz0 .i64 .i64 n n (by omega) (by omega) (by rw [hz2]; omega) (by omega)
    rw [this]
    simp only [Int.toNat_natCast, hz1, Value.cells]
    rw [madeZeros]
  have h1' : ¬ (n : Int) < 1 := by omega
  have h2' : ¬ 1024 < (n : Int) := by omega
  clear hi hz0 hz1 hz2
  go_enter Tryz.func133, Tryz.ntmps133
  go_wp2
  go_ret2
  have ha : (w.alloc (.cells (ints (List.replicate n 0)).toArray 3)).heap[w.heap.size]? = some (.cells (ints (List.replicate n 0)).toArray 3) := heap_alloc_last w _ rfl
  refine ⟨rfl, ⟨heap_alloc_last _ _ (by simp), ?_, by simp [Value.ownBlock], by simpa using h2⟩, ((Below.refl _ _).alloc (Nat.le_refl _) _).alloc (by simp) _, by simp⟩
  refine ⟨by simp, .inr ⟨w.heap.size, 0, n, (ints (List.replicate n 0)).toArray, by simp, ?_, by simp, by unfold maxLen; omega, by simp, ?_⟩⟩
  · rw [Below.heap_alloc _ _ _ (by simp)]; exact ha
  · intro j u hj; simpa using hj
section
variable {w : World} {b : Nat} {v : Value} {l : List Int}
set_option maxHeartbeats 1000000 in
theorem alloc_any (h : SlotsAt TS w b v l) :
    Calls Tryz.prog 324 #[ptrAt b] w fun e w' => e = .returned (.tuple #[.int .i64 (allocVal l), .int .i64 (allocCode l)]) ∧
      SlotsAt TS w' b v (allocList l) ∧ Upd (ownS v) w w' := by
  have hc0 := cell_of_block h.str 0
  simp at hc0
  have hle := h.le
  have H := Lib.hid h
  obtain ⟨ao, c, rfl⟩ := h.sl.rd.nil_iff
  clear h
  go_enter Tryz.func324, Tryz.ntmps324
  go_wp2
  go_step3
  go_wp2
  go_step3
  go_wp2
  go_loopg [4, 5, 15] (l.length + 1) (fun g fv ev i wr => ∃ k : Nat, k + g = l.length + 1 ∧ k ≤ l.length ∧ fv = .int .i64 0 ∧ ev = .int .i64 17 ∧ i = .int .i64 k ∧ k ≤ free l ∧ wr = w)
  case atStart => exact ⟨0, by omega, by omega, rfl, rfl, rfl, Nat.zero_le _, rfl⟩
  case round =>
    obtain ⟨k, hk, hkl, rfl, rfl, rfl, hf, rfl⟩ := hrel
    by_cases hlt : k < l.length
    · obtain ⟨g, off, cap, hv, hcell, hfz⟩ := H.out.at hlt
      cases hv
      by_cases h0 : l[k] = 0
      · have hfr := free_hit hf hlt h0
        have hb0 : (l[k] == 0) = true := by simpa using h0
        have hr1 : allocVal l = k := by simp [allocVal, hfr, hlt]
        have hr2 : allocCode l = 0 := by simp [allocCode, hfr, hlt]
        have hr3 : allocList l = l.set k 1 := by simp [allocList, hfr]
        have HF := Lib.hid (H.out.set k hlt 1)
        have HR : Hid (allocVal l = k ∧ allocCode l = 0 ∧ allocList l = l.set k 1) := ⟨hr1, hr2, hr3⟩
        clear hf hfr h0 hr1 hr2 hr3
        go_wp2
        rw [Exit.noGoto_ret]
        go_ret2
        exact ⟨by rw [HR.out.1, HR.out.2.1]; rfl, by rw [HR.out.2.2]; exact HF.out.1, HF.out.2⟩
      · have hb0 : (l[k] == 0) = false := by simpa using h0
        have hfs := free_step hf hlt h0
        clear hf h0
        go_wp2
        go_roundg (gk - 1)
        case measure => omega
        case rel => exact ⟨k + 1, by omega, by omega, rfl, rfl, by go_num, hfs, rfl⟩
    · obtain rfl : k = l.length := by omega
      have hfr : free l = l.length := Nat.le_antisymm (free_le l) hf
      have hr1 : allocVal l = 0 := by simp [allocVal, hfr]
      have hr2 : allocCode l = 17 := by simp [allocCode, hfr]
      have hr3 : allocList l = l := by simp only [allocList, hfr]; exact List.set_eq_of_length_le (Nat.le_refl _)
      have HR : Hid (allocVal l = 0 ∧ allocCode l = 17 ∧ allocList l = l) := ⟨hr1, hr2, hr3⟩
      clear hf hfr hr1 hr2 hr3
      go_wp2
      rw [Exit.noGoto_ret]
      go_ret2
      exact ⟨by rw [HR.out.1, HR.out.2.1]; rfl, by rw [HR.out.2.2]; exact H.out, Upd.refl _ _⟩
theorem clone_any {w : World} {v : Value} {l : List Int} (h : Rd w 1 v l.length (ints l)) (hle : l.length ≤ 4096) :
    Calls Tryz.prog 113 #[v] w fun e w' => ∃ v', e = .returned v' ∧ Sl w' 3 1 v' l.length (ints l) ∧ From w.heap.size v' ∧ Below w.heap.size w w' := by
  obtain ⟨i0, hi, hz0, hz1, hz2⟩ := info_parts infoI
  have H := Lib.hid h
  obtain ⟨hl, hm, ao, c, rfl, h0, _⟩ := h
  have q34 := fun (w : World) (a : Option Addr) (n c : Nat) => Lib.run_eql_slice_nil (P := Tryz.prog) w 87 3 a n c 0 0 Tryz.underlying87
  cases ao with
  | none =>
    have hn := h0 rfl
    obtain rfl : l = [] := List.eq_nil_of_length_eq_zero hn
    clear h0 hl
    go_enter Tryz.func113, Tryz.ntmps113
    go_wp2
    go_ret
    exact ⟨_, rfl, by simpa using Sl.nil _ _ _, From.nil _ _ _, Below.refl _ _⟩
  | some a =>
    clear h0 hl
    have hs0 : Sl (w.alloc (.cells #[] 3)) 3 1 (.slice (some ⟨w.heap.size, 0, none⟩) 0 0) 0 [] :=
      ⟨by simp, .inr ⟨w.heap.size, 0, 0, #[], rfl, heap_alloc_last _ _ rfl, by simp, by simp [maxLen], by simp, by simp⟩⟩
    have HR : Hid (Rd (w.alloc (.cells #[] 3)) 1 (.slice (some a) l.length c) l.length (ints l)) := H.out.keep ((Upd.refl (fun _ => False) _).alloc _) (fun _ _ h => h)
    go_enter Tryz.func113, Tryz.ntmps113
    go_wp2_with (at_builtin; refine wpList_append_sl rfl _ _ 87 rfl i0 (.int .i64 0) 8 Tryz.underlying87 hi hz0 hz1 hz2 rfl (by decide) rfl hs0 _ l.length (ints l) rfl HR.out (by simp [ints, Value.oneCell']) (by unfold maxLen; omega) (by omega) ?_)
    intro v' w2 hs2 hu2 hb2
    go_wp2
    go_ret
    refine ⟨_, rfl, by simpa using hs2, ?_, ?_⟩
    · exact hb2.ge (by simp) (by intro g hg; simp [Value.ownBlock] at hg; omega)
    · refine below_upd ((Below.refl _ _).alloc (Nat.le_refl _) _) hu2 (Nat.le_refl _) (by intro k hk; simp [ownS, Value.ownBlock] at hk; omega)
end
end Go.Proofs.YtfhfbpmlnjdfoaaGreatDoor
