/- Where all may go, and none was asked for, keys go in the order in which they came, and are the ghosts, in that order: for every list of keys, every bound of ghosts. -/
import Derived.Test.YtmgcekpfnkcmjaaPlay07
import Derived.Test.YtmgcekpfnkcmjaaRows
namespace Go.Proofs.Ytmgcekpfnkcmjaa.secondTurns
open Go Go.RowKit Go.ChangeShapes Go.WideShapes Go.ChangeAt Go.Proofs.Ytmgcekpfnkcmjaa

set_option maxRecDepth 100000 in
theorem early (v : Value) (l : List Int) (few : Int) (w : World) (hv : Rd w 1 v l.length (ints l)) (h : 60 < l.length ∨ few < 0 ∨ 1024 < few) :
    Calls Try.prog 10 #[v, .int .i64 few] w fun e w' => e = .returned (.bool true) ∧ Below w.heap.size w w' := by
  have hle := hv.le
  unfold maxLen at hle
  obtain ⟨ao, c, rfl⟩ := hv.nil_iff
  clear hv
  have h' : 60 < l.length ∨ (¬ 60 < l.length ∧ few < 0) ∨ (¬ 60 < l.length ∧ ¬ few < 0 ∧ 1024 < few) := by omega
  rcases h' with h1 | ⟨h1, h2⟩ | ⟨h1, h2, h3⟩
  all_goals
    clear h
    go_enter Try.func10, Try.ntmps10
    go_wp2_with fail
    refine (awake07 _).mono ?_
    rintro e w2 ⟨rfl, hb2⟩
    go_wp2
    go_ret
    exact ⟨rfl, hb2⟩

/-- The ghosts that i keys leave. -/
def ghL (K : List Int) (few i : Nat) : List Int := (K.take i).drop (i - few)
theorem ghL_len {K : List Int} {few i : Nat} (h : i ≤ K.length) : (ghL K few i).length = min i few := by
  unfold ghL; rw [List.length_drop, List.length_take]; omega
theorem ghL_step {K : List Int} {few i : Nat} (h : i < K.length) : trimG few (ghL K few i ++ [K[i]]) = ghL K few (i + 1) := by
  have e1 : (K.take (i + 1)) = K.take i ++ [K[i]] := List.take_succ_eq_append_getElem h
  have hl := ghL_len (K := K) (few := few) (Nat.le_of_lt h)
  have hti : (K.take i).length = i := by rw [List.length_take]; omega
  unfold trimG
  have e2 : ghL K few i ++ [K[i]] = (K.take (i + 1)).drop (i - few) := by
    unfold ghL
    rw [e1, List.drop_append_of_le_length (by omega)]
  by_cases hf : few < (ghL K few i ++ [K[i]]).length
  · rw [if_pos hf, e2]
    rw [List.length_append, hl] at hf
    unfold ghL
    rw [← List.drop_one, List.drop_drop]
    congr 1
    simp at hf
    omega
  · rw [if_neg hf, e2]
    rw [List.length_append, hl] at hf
    unfold ghL
    congr 1
    simp at hf
    omega
theorem ghL_end (K : List Int) (few : Nat) : ghL K few K.length = K.drop (K.length - few) := by unfold ghL; rw [List.take_length]
theorem drop_cons {K : List Int} {i : Nat} (h : i < K.length) : K.drop i = K[i] :: K.drop (i + 1) := by simp

/-- Where all may go, and none was asked for, the first one goes. -/
theorem ev_first {few key code : Int} {f : Nat} {x : Int} {R K' G G' : List Int} {A' : Int → Bool} (_ : few = 0) (h : EvOut 0 f (x :: R) (fun _ => false) G key code K' A' G') : code = 0 ∧ key = x ∧ K' = R ∧ A' = (fun _ => false) ∧ G' = trimG f (G ++ [x]) := by
  rcases h with ⟨_, _, _, _, _, h⟩ | ⟨rfl, hy⟩
  · have := h x (by simp)
    simp [mayB] at this
  · obtain ⟨i, hi, h1, h2, h3, _⟩ := hy.ex
    obtain ⟨rfl, rfl⟩ := h3 (fun y hy => ⟨by simp [mayB], rfl⟩)
    have : key = x := by rw [h1]; rfl
    subst this
    exact ⟨rfl, rfl, by rw [h2]; simp [restK], rfl, hy.gh⟩
theorem ev_none {f : Nat} {key code : Int} {K' G G' : List Int} {A A' : Int → Bool} (h : EvOut 0 f [] A G key code K' A' G') : code = 14 ∧ key = 0 ∧ K' = [] ∧ A' = A ∧ G' = G := by
  rcases h with ⟨rfl, rfl, rfl, rfl, rfl, _⟩ | ⟨_, hy⟩
  · exact ⟨rfl, rfl, rfl, rfl, rfl⟩
  · obtain ⟨i, hi, _⟩ := hy.ex
    simp at hi

theorem _root_.Go.Proofs.Ytmgcekpfnkcmjaa.Sl.cap_le {w : World} {e : TypeId} {k n m cap : Nat} {av : Option Addr} {xs : List Value} (h : Sl w e k (.slice av n cap) m xs) : m ≤ cap := by
  obtain ⟨_, ⟨h1, rfl⟩ | ⟨g, off, c, cur, h1, _, h2, _⟩⟩ := h
  · omega
  · cases h1; exact h2

/-- A row from a place on. -/
theorem rd_map {w : World} {av : Option Addr} {n cv : Nat} {K : List Int} (h : Rd w 1 (.slice av n cv) K.length (ints K)) (hn : n = K.length) (m c' : Nat) (hm : m ≤ K.length) :
    Rd w 1 (.slice (Option.map (fun x => x.add m) av) (K.length - m) c') (K.drop m).length (ints (K.drop m)) := by
  obtain ⟨hl, hmx, ao, cap, he, h0, hc⟩ := h
  cases he
  refine ⟨by simp, by rw [List.length_drop]; omega, Option.map (fun x => x.add m) av, c', by rw [List.length_drop], fun e => ?_, fun b hb j u hj => ?_⟩
  · rw [List.length_drop]
    have := h0 (by simpa using e)
    omega
  · cases av with
    | none => cases hb
    | some a =>
      cases hb
      have hj' : (ints K)[m + j]? = some u := by simpa [ints, List.getElem?_drop] using hj
      have := hc a rfl _ _ hj'
      have e2 : (a.add m).add j = a.add (m + j) := by
        unfold Addr.add; by_cases h1 : m = 0 <;> by_cases h2 : j = 0 <;> simp [h1, h2, Nat.add_assoc]
      rw [e2]; exact this
theorem rd_empty {w : World} {av : Option Addr} {n : Nat} {K : List Int} (m c' : Nat) (hm : K.length ≤ m) (hn : n = 0) : Rd w 1 (.slice av n c') (K.drop m).length (ints (K.drop m)) := by
  have e : K.drop m = [] := List.drop_eq_nil_of_le hm
  rw [e]
  exact ⟨by simp, by simp [maxLen], av, c', by simp [hn], fun _ => rfl, fun b _ j u hj => by simp at hj⟩

/-- The blocks that the clock may have: all from M on, but a slice's. -/
def offS (M : Nat) (v : Value) : Nat → Prop := fun j => M ≤ j ∧ v.ownBlock ≠ some j
theorem offS_new {M : Nat} {v : Value} {w : World} (hM : M ≤ w.heap.size) (hv : ∀ g, v.ownBlock = some g → g < w.heap.size) : ∀ j, w.heap.size ≤ j → offS M v j := fun j hj => ⟨Nat.le_trans hM hj, fun e => by have := hv j e; omega⟩
theorem offS_app {M b N most few : Nat} {v v' : Value} {w w' : World} {K G : List Int} {A : Int → Bool} (h : Ck (offS M v) w b N most few K A G) (hu : Upd (ownS v) w w') (hb : blockFrom w v v') : Ck (offS M v') w' b N most few K A G :=
  (h.out (S' := fun j => offS M v' j ∧ v.ownBlock ≠ some j) (fun j hj hs => ⟨⟨hs.1, fun e => by
    rcases hb with hb | ⟨g, hb, hg⟩
    · exact hs.2 (by rw [← hb]; exact e)
    · rw [hb] at e; cases e; omega⟩, hs.2⟩)).keep hu (fun j hj e => hj.2 e) |>.out (fun j _ hj => hj.1)

set_option maxRecDepth 100000 in
set_option maxHeartbeats 8000000 in
theorem main (v : Value) (l : List Int) (few : Nat) (w : World) (hv : Rd w 1 v l.length (ints l)) (hl : ∀ x ∈ l, InR x) (hf : few ≤ 1024) (h : l.length ≤ 60) :
    Calls Try.prog 10 #[v, .int .i64 few] w fun e w' => e = .returned (.bool true) ∧ Below w.heap.size w w' := by
  obtain ⟨i0, hi0, hz0, hz1, hz2⟩ := info_parts infoI07
  have HV := Lib.hid hv
  have HL := Lib.hid hl
  obtain ⟨ao, c, rfl⟩ := hv.nil_iff
  have q1 : ¬ (few : Int) < 0 := by omega
  have q2 : ¬ (1024 : Int) < (few : Int) := by omega
  clear hv hl
  go_enter Try.func10, Try.ntmps10
  go_wp2_with fail
  refine (knew_ck (S := fun j => w.heap.size ≤ j) 64 few _ (by decide) (by decide) hf (fun j h => h)).mono ?_
  rintro e w1 ⟨b, rfl, hc1, _, hB1⟩
  have H1 : Hid (Ck (offS w.heap.size (.slice none 0 0)) w1 b 0 64 few [] (fun _ => false) [] ∧ Below w.heap.size w w1) := ⟨hc1.out (fun j _ h => ⟨h, by simp [Value.ownBlock]⟩), hB1⟩
  clear hc1 hB1
  go_wp2_with fail
  clear q1 q2
  go_loopg [7, 8] l.length (fun g v i wr => ∃ (j : Nat) (K : List Int), j + g = l.length ∧ i = .int .i64 j ∧ K.length ≤ j ∧ Sl wr 3 1 v K.length (ints K) ∧ From w.heap.size v ∧ Ck (offS w.heap.size v) wr b j 64 few K (fun _ => false) [] ∧ Below w.heap.size w wr)
  case atStart => exact ⟨0, [], by omega, rfl, by simp, Sl.nil _ _ _, From.nil _ _ _, H1.out.1, H1.out.2⟩
  case round =>
    clear H1 w1
    obtain ⟨j, K, hj, rfl, hKj, hs, hfv, hc, hB⟩ := hrel
    by_cases hlt : j < l.length
    · obtain ⟨bl, off, c', hvv, hbl, hcell⟩ := HV.out.at (by omega)
      cases hvv
      have g0 := (hB.cell (p := ⟨bl, off + j, none⟩) hbl).trans (hcell j _ (get_ints hlt))
      have hxr : InR l[j] := HL.out _ (List.getElem_mem hlt)
      obtain ⟨x, hx⟩ : ∃ x, x = l[j] := ⟨_, rfl⟩
      rw [← hx] at g0 hxr
      have hvl : ∀ g, u7.ownBlock = some g → g < wr.heap.size := fun g hg => hs.lt hg
      have F := Lib.hid (And.intro hs (And.intro hfv (And.intro hc (And.intro hB (offS_new hB.size hvl)))))
      clear hcell hx hs hfv hc hB hvl
      go_wp2_with fail
      refine (kadd_any F.out.2.2.1 F.out.2.2.2.2 x hxr (by unfold maxLen; omega)).mono ?_
      rintro e w2 ⟨rfl, hc2, hu2⟩
      have HB2 := Lib.hid (below_upd F.out.2.2.2.1 hu2 (Nat.le_refl _) (fun j h => h.1))
      have HS2 := Lib.hid (F.out.1.keep hu2 (fun g hg h => h.2 hg))
      have g2 := (hu2.cellAt (o := off + j) (Nat.lt_of_lt_of_le hbl F.out.2.2.2.1.size) (fun h => by have := h.1; omega)).trans g0
      by_cases hk : x ∈ K
      · have e1 : addC 64 K x = 15 := if_pos hk
        have e2 : addK 64 K x = K := if_pos (.inl hk)
        have e3 : addA 64 K (fun _ => false) [] x = (fun _ => false) := if_pos (.inl hk)
        have e4 : addG 64 K [] x = [] := if_pos (.inl hk)
        rw [e2, e3, e4] at hc2
        rw [e1]
        have HC2 := Lib.hid hc2
        clear e1 e2 e3 e4 hk hc2 hu2 g0 g2
        go_wp2
        go_roundg (gk - 1)
        case measure => omega
        case rel => exact ⟨j + 1, K, by omega, by go_num, by omega, HS2.out, F.out.2.1, HC2.out, HB2.out⟩
      · have hm : ¬ K.length = 64 := by omega
        have hor : ¬ (x ∈ K ∨ K.length = 64) := fun h => h.elim hk hm
        have e1 : addC 64 K x = 0 := by unfold addC; rw [if_neg hk, if_neg hm]
        have e2 : addK 64 K x = K ++ [x] := if_neg hor
        have e3 : addA 64 K (fun _ => false) [] x = (fun _ => false) := if_neg hor
        have e4 : addG 64 K [] x = [] := if_neg hor
        rw [e2, e3, e4] at hc2
        rw [e1]
        have HC2 := Lib.hid hc2
        have hone : Hid (∀ u ∈ [Value.int .i64 x], u.oneCell' = true) := by intro u hu; simp at hu; subst hu; rfl
        clear e1 e2 e3 e4 hk hm hor hc2 hu2 g0
        go_wp2_with (at_builtin; refine wpList_append_one rfl _ _ 45 rfl i0 (.int .i64 0) 8 Try.underlying45 hi0 hz0 hz1 hz2 rfl (by decide) rfl HS2.out [.int .i64 x] rfl rfl hone.out (by unfold maxLen; omega) (by omega) ?_)
        intro v3 w3 hs3 hu3 hbf3
        have hs3' : Sl w3 3 1 v3 (K ++ [x]).length (ints (K ++ [x])) := by simpa using hs3
        have hf3 := hbf3.ge HB2.out.size F.out.2.1
        have G3 := Lib.hid (And.intro hs3' (And.intro hf3 (And.intro (offS_app HC2.out hu3 hbf3) (below_upd HB2.out hu3 (Nat.le_refl _) F.out.2.1))))
        clear hs3 hs3' hf3 hu3 hbf3 g2
        go_wp2
        go_roundg (gk - 1)
        case measure => omega
        case rel => exact ⟨j + 1, K ++ [x], by omega, by go_num, by simp; omega, G3.out.1, G3.out.2.1, G3.out.2.2.1, G3.out.2.2.2⟩
    · obtain rfl : j = l.length := by omega
      obtain ⟨wb, rfl⟩ : ∃ wb : World, wb = wr := ⟨_, rfl⟩
      obtain ⟨go, hgo⟩ : ∃ x, x = gk := ⟨_, rfl⟩
      have F := Lib.hid (And.intro hs (And.intro hfv (And.intro hc hB)))
      have hKl : K.length ≤ 60 := by omega
      clear hgo hj hs hfv hc hB hlt
      obtain ⟨av, cv, hv7⟩ := F.out.1.rd.nil_iff
      subst hv7
      go_wp2
      go_loopg [10] K.length (fun g i W => ∃ j : Nat, j + g = K.length ∧ i = .int .i64 j ∧ Ck (offS w.heap.size (.slice av K.length cv)) W b l.length 64 few (K.drop j) (fun _ => false) (ghL K few j) ∧ Sl W 3 1 (.slice av K.length cv) K.length (ints K) ∧ Below w.heap.size w W)
      case atStart => exact ⟨0, by omega, rfl, by simpa [ghL] using F.out.2.2.1, F.out.1, F.out.2.2.2⟩
      case round =>
        obtain ⟨j, hj, rfl, hc, hs, hB⟩ := hrel
        have R := Lib.hid (And.intro hc (And.intro hs (And.intro hB (offS_new hB.size (fun g hg => hs.lt hg)))))
        by_cases hlt : j < K.length
        · rw [drop_cons hlt] at hc
          have HC := Lib.hid hc
          have hgs : Hid (trimG few (ghL K few j ++ [K[j]]) = ghL K few (j + 1)) := ghL_step hlt
          obtain ⟨gv, ov, cv', q, hgv, hcell⟩ := hs.rd.at (by omega)
          cases q
          have x1 := hcell j (.int .i64 K[j]) (get_ints hlt)
          clear hc hs hB hcell
          go_wp2_with fail
          refine (evict_ck HC.out R.out.2.2.2 0 ⟨by decide, by decide⟩).mono ?_
          rintro e w2 ⟨key, code, K', A', G', rfl, ho, hc2, hu2⟩
          obtain ⟨rfl, rfl, rfl, rfl, rfl⟩ := ev_first (few := 0) rfl ho
          rw [hgs.out] at hc2
          have x2 := (hu2.cellAt (o := ov + j) hgv (fun h => h.2 rfl)).trans x1
          have G2 := Lib.hid (And.intro hc2 (And.intro (R.out.2.1.keep hu2 (fun g hg h => h.2 hg)) (below_upd R.out.2.2.1 hu2 (Nat.le_refl _) (fun j h => h.1))))
          obtain ⟨x, hx⟩ : ∃ x, x = K[j] := ⟨_, rfl⟩
          rw [← hx] at x2
          rw [← hx]
          clear hc2 hu2 ho x1 hx hgs
          go_wp2
          go_roundg (gk - 1)
          case measure => omega
          case rel => exact ⟨j + 1, by omega, by go_num, G2.out.1, G2.out.2.1, G2.out.2.2⟩
        · obtain rfl : j = K.length := by omega
          have e0 : K.drop K.length = [] := by simp
          rw [e0] at hc
          have HC := Lib.hid hc
          clear hc hs hB e0
          go_wp2_with fail
          refine (evict_ck HC.out R.out.2.2.2 0 ⟨by decide, by decide⟩).mono ?_
          rintro e w2 ⟨key, code, K', A', G', rfl, ho, hc2, hu2⟩
          obtain ⟨rfl, rfl, rfl, rfl, rfl⟩ := ev_none ho
          have HC2 := Lib.hid hc2
          have HS2 := Lib.hid (R.out.2.1.keep hu2 (fun g hg h => h.2 hg))
          have HB2 := Lib.hid (below_upd R.out.2.2.1 hu2 (Nat.le_refl _) (fun j h => h.1))
          clear hc2 hu2 ho
          go_wp2_with fail
          refine (ghosts_ck HC2.out).mono ?_
          rintro e w3 ⟨v3, rfl, hs3, hf3, hb3⟩
          have HC3 := Lib.hid (HC2.out.below hb3)
          have HB3 := Lib.hid (HB2.out.trans (hb3.mono HB2.out.size))
          have HS3 := Lib.hid (HS2.out.keep (Upd.of_below (S := fun _ => False) hb3) (fun _ _ h => h))
          rw [ghL_end] at hs3
          have HG3 := Lib.hid hs3
          clear hs3 hf3 hb3
          go_wp2_with fail
          refine (klen_ck HC3.out).mono ?_
          rintro e w4 ⟨rfl, rfl⟩
          go_wp2_with fail
          all_goals
            refine (ints_any HG3.out.rd (m := K.drop (K.length - few)) ?hr).mono ?_
            case hr =>
              have hcap := HS3.out.cap_le
              first
              | exact rd_map HS3.out.rd rfl _ _ (by omega)
              | exact rd_empty _ _ (by omega) (by omega)
              | (rw [show K.length - few = 0 by omega]; simpa using HS3.out.rd)
            rintro e w5 ⟨rfl, d, hw5⟩
            rw [decide_eq_true rfl]
            have HB5 : Hid (Below w.heap.size w w5) := by show Below _ _ _; rw [hw5]; exact below_drewN HB3.out _
            clear hw5
            go_wp2_with fail
          all_goals
            refine (awake07 _).mono ?_
            rintro e wc ⟨rfl, hbc⟩
            go_wp2
            go_ret
            exact ⟨rfl, HB5.out.trans (hbc.mono HB5.out.size)⟩

theorem walk (v : Value) (l : List Int) (few : Int) (w : World) (hv : Rd w 1 v l.length (ints l)) (hl : ∀ o ∈ l, InR o) :
    Calls Try.prog 10 #[v, .int .i64 few] w fun e w' => e = .returned (.bool true) ∧ Below w.heap.size w w' := by
  by_cases h : 60 < l.length ∨ few < 0 ∨ 1024 < few
  · exact early v l few w hv h
  · obtain ⟨f, rfl⟩ : ∃ f : Nat, few = f := ⟨few.toNat, by omega⟩
    exact main v l f w hv hl (by omega) (by omega)
theorem own : ownKnob Try.prog.godebug = none := by kernel_rfl

set_option maxRecDepth 100000 in
theorem lifted (os : Os) (started : os.Started) (H : Type) (enc : TypeId × Value → H) :
    ReturnsInHanded {} Try.checked os 10 .any (Rows.secondTurnsSpec.pre6 enc Try.prog Try.f10 Rows.secondTurnsRow.domain false) (Rows.secondTurnsSpec.post enc Try.prog Try.f10 false true false false) := by
  refine returnsInHanded_of_change (C := Try.checked) own started (by kernel_rfl) Try.func10
    (ChangeSpec.witness6 (enc := enc) (C := Try.checked) false ⟨#[], #[.slice none 0 0,.int .i64 0], []⟩ 8 (by kernel_rfl) (by kernel_rfl) (by kernel_rfl) (by kernel_rfl)) ?_
  intro W base args ds gs before hval0 hW hcnd _
  have hval : ∀ (j : Nat) t v, Try.f10.params[j]? = some t → args[j]? = some v → Value.okWide Try.prog W .any base t v := hval0
  have hW' := hW
  obtain ⟨p, q, hA0, hV, rfl, hfz, hnd⟩ := hW
  have hA : DataW.TrodAll enc Try.prog W 0 (fun _ => true) true Try.f10.params.toList args.toList ds p := hA0
  rw [Try.params10] at hA hval
  obtain ⟨v0, vs0, d0, ds0, p0, q0, hargs, rfl, rfl, h0, r0⟩ := trodAll_cons hA
  obtain ⟨v1, vs1, d1, ds1, p1, q1, rfl, rfl, rfl, h1, r1⟩ := trodAll_cons r0
  obtain ⟨rfl, rfl, rfl⟩ := trodAll_nil r1
  obtain rfl : args = #[v0, v1] := by cases args; simp_all
  obtain ⟨rfl, rfl⟩ := trodVars_none hV
  obtain ⟨l, hl, ho⟩ := open_rd_ints Try.underlying45 Try.underlying3 (by kernel_rfl) (hval 0 45 v0 rfl rfl) h0
  obtain ⟨a1, rfl, rfl, rfl, w1⟩ := open_int Try.underlying3 (hval 1 3 v1 rfl rfl) h1
  refine (walk v0 l a1 W hl (fun x hx => inR_of_wf (ho x hx))).mono fun e W' ⟨he, hb⟩ => ?_
  subst he
  exact ⟨_, rfl, law_post (T := 4) (by kernel_rfl) (by kernel_rfl) rfl Try.underlying4 rfl rfl hW' hb⟩

theorem over : Rows.secondTurnsRow.holds Try.pinned (OpenSpec.ofChange Rows.secondTurnsSpec) :=
  OpenClaim.holds_of_wide 10 Try.f10 rfl rfl rfl rfl rfl rfl rfl ⟨rfl, rfl, rfl, rfl, rfl⟩ rfl rfl rfl rfl rfl (by kernel_rfl) Try.func10 (by kernel_rfl)
    (of_decide_eq_true (by kernel_rfl)) (by unfold Func.isWrapper; first | (rw [if_pos (by decide +kernel)]; kernel_rfl) | (rw [if_neg (by decide +kernel)]; exact ⟨rfl, rfl⟩))
    (fun os started H enc _ => lifted os started H enc)

/-- The statement. -/
theorem proved : Rows.SecondTurnsSaid :=
  over
end Go.Proofs.Ytmgcekpfnkcmjaa.secondTurns
