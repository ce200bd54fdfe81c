/- Pages: Save, whatever becomes of its calls. The iterator over the blocks of a span: its items are those of the span. Len and Dirty. The iterator that All gives, whatever the span; the plain law of parted spans. Two slices in boxes, one appended to beside the other. A quiet region (it draws its order, and only reads) in a round's frame. A drawn region in a round's frame, walked by the words for plain frames. A map's look-up without ok. -/
import Derived.Test.YtnadilfobmgebaaGreatDoorH19
import Derived.Test.YtnadilfobmgebaaGreatDoorH18
import Derived.RangeFuncNested
import Derived.Maps.OwnIn
import Derived.Shelf.RegionOpen
import Derived.Deep.RegionHeld
import Derived.Test.YtnadilfobmgebaaGreatDoorH04
namespace Go.Proofs.YtnadilfobmgebaaGreatDoor
open Go Go.RowKit
def saveR (F : List Bk) (O : List (Nat × Bk)) (P : List Int) (L : List (Nat × Bk)) : DRes :=
  if (wrsR F L O P).cd = 0 then flushR F (wrsR F L O P).O (wrsR F L O P).P else wrsR F L O P
theorem saveR_len (F : List Bk) (O : List (Nat × Bk)) (P : List Int) (L : List (Nat × Bk)) : (saveR F O P L).F.length = F.length := by
  unfold saveR
  split
  · unfold flushR; repeat' split
    all_goals simp [flushF_len]
  · rw [wrsR_F]
set_option maxHeartbeats 1000000 in
theorem psaveR {S : Nat → Prop} {w : World} {b : Nat} {F : List Bk} {O : List (Nat × Bk)} {P : List Int} (hd : Dv S w b F O P) (hn : ∀ j, w.heap.size ≤ j → S j) (base m seq wh : Nat) (hwh : wh ≤ 1) (lo : Option Addr) (n lc : Nat) (E : List Ent) (hEn : E.length = n) (hnm : needN n ≤ m) (hn1 : n ≤ 100000)
    (hbm : base + m + m ≤ F.length) (hO : O.length + m < 65536) (hbuild : ∀ W, Below w.heap.size w W → Calls Tryz.prog 227 #[.int .i64 (seq : Int), .slice lo n lc] W (BuildPost W seq E)) :
    Calls Tryz.prog 158 #[.pointer (some ⟨b, 0, none⟩), .int .i64 (base : Int), .int .i64 (m : Int), .int .i64 (wh : Int), .int .i64 (seq : Int), .slice lo n lc] w (Out S w b (saveR F O P (ckO (base + wh * m) m (pagesB seq E)))) := by
  have hfl := hd.good.fl
  have hW := pwriteR hd hn (base + wh * m) m seq lo n lc E hEn hnm hn1 (by rcases (show wh = 0 ∨ wh = 1 by omega) with rfl | rfl <;> omega) hO hbuild
  have hrF := wrsR_F F (ckO (base + wh * m) m (pagesB seq E)) O P
  obtain ⟨R, hR⟩ : ∃ R, R = saveR F O P (ckO (base + wh * m) m (pagesB seq E)) := ⟨_, rfl⟩
  rw [← hR]
  unfold saveR at hR
  generalize wrsR F (ckO (base + wh * m) m (pagesB seq E)) O P = r at *
  have HW := Lib.hid hW
  have HH := Lib.hid (And.intro hn (And.intro hR hrF))
  obtain ⟨rcd, hrcd⟩ : ∃ rcd, rcd = r.cd := ⟨_, rfl⟩
  replace hrcd := Lib.hid hrcd
  clear hd hn hEn hnm hn1 hO hbuild hW hrF hR
  rcases (show wh = 0 ∨ wh = 1 by omega) with rfl | rfl
  · simp only [Nat.zero_mul, Nat.add_zero, Int.natCast_zero] at *
    go_enter Tryz.func158, Tryz.ntmps158
    go_wp2_with fail
    refine HW.out.mono ?_
    rintro e w2 ⟨rfl, hd2, hu2⟩
    rw [HH.out.2.2] at hd2
    rw [← hrcd.out]
    have HF := Lib.hid (And.intro (dflushR hd2 (fun j hj => HH.out.1 j (by have := hu2.size; omega))) (And.intro hu2 hd2))
    clear hd2 hu2
    by_cases hc : rcd = 0
    · have HZ := Lib.hid (hc ▸ hrcd.out : 0 = r.cd)
      subst hc
      go_wp2_with fail
      refine HF.out.1.mono ?_
      rintro e w3 ⟨rfl, hd3, hu3⟩
      have HE := Lib.hid (And.intro hd3 hu3)
      have HR := HH.out.2.1
      rw [if_pos HZ.out.symm] at HR
      rw [← HR] at HE ⊢
      replace HR := Lib.hid HR
      clear hd3 hu3
      go_wp2
      go_ret
      exact ⟨rfl, HE.out.1, HF.out.2.1.trans HE.out.2⟩
    · have q0 : (rcd == 0) = false := by simpa using hc
      have HZ := Lib.hid hc
      go_wp2
      go_ret
      have HR := HH.out.2.1
      rw [if_neg (by rw [← hrcd.out]; exact HZ.out)] at HR
      rw [HR, hrcd.out]
      refine ⟨rfl, ?_, HF.out.2.1⟩
      rw [HH.out.2.2]
      exact HF.out.2.2
  · simp only [Nat.one_mul, Int.natCast_one] at *
    have e1 : ((base : Int) + (m : Int)) = ((base + m : Nat) : Int) := by simp
    rw [← e1] at HW
    clear e1
    go_enter Tryz.func158, Tryz.ntmps158
    go_wp2_with fail
    refine HW.out.mono ?_
    rintro e w2 ⟨rfl, hd2, hu2⟩
    rw [HH.out.2.2] at hd2
    rw [← hrcd.out]
    have HF := Lib.hid (And.intro (dflushR hd2 (fun j hj => HH.out.1 j (by have := hu2.size; omega))) (And.intro hu2 hd2))
    clear hd2 hu2
    by_cases hc : rcd = 0
    · have HZ := Lib.hid (hc ▸ hrcd.out : 0 = r.cd)
      subst hc
      go_wp2_with fail
      refine HF.out.1.mono ?_
      rintro e w3 ⟨rfl, hd3, hu3⟩
      have HE := Lib.hid (And.intro hd3 hu3)
      have HR := HH.out.2.1
      rw [if_pos HZ.out.symm] at HR
      rw [← HR] at HE ⊢
      replace HR := Lib.hid HR
      clear hd3 hu3
      go_wp2
      go_ret
      exact ⟨rfl, HE.out.1, HF.out.2.1.trans HE.out.2⟩
    · have q0 : (rcd == 0) = false := by simpa using hc
      have HZ := Lib.hid hc
      go_wp2
      go_ret
      have HR := HH.out.2.1
      rw [if_neg (by rw [← hrcd.out]; exact HZ.out)] at HR
      rw [HR, hrcd.out]
      refine ⟨rfl, ?_, HF.out.2.1⟩
      rw [HH.out.2.2]
      exact HF.out.2.2
end Go.Proofs.YtnadilfobmgebaaGreatDoor
namespace Go.Proofs.YtnadilfobmgebaaGreatDoor
open Go Go.RowKit Go.Shelf
attribute [local go_sem] Oper.semAt_some
set_option maxRecDepth 100000 in
set_option maxHeartbeats 2000000 in
theorem it_inM (n : Nat) (hn : 2 ≤ n) (S : Nat → Prop) (l Bs Bp b off cap : Nat) (qs : List (Int × Bool)) (fr : Nat)
    (hle : qs.length ≤ 4096) (hfr : fr ≤ 4096) (hgood : ∀ k (h : k < qs.length), qs[k] = (-1, false) ∨ 0 ≤ qs[k].1) (hb : ¬ S b) (hBp : ¬ S Bp) (J Jx : List It9 → World → Prop) (B0 : Nat) (hJ : AbidesFrom B0 J)
    (hY : ∀ pre (x : It9) W, J pre W → pre ++ [x] <+: vis qs fr → YieldAt Fence.wide (n - 1) Tryz.prog l (enc9 x) W fun e W' =>
      (e = .returned (.bool true) ∧ J (pre ++ [x]) W' ∧ Upd S W W') ∨ (e = .returned (.bool false) ∧ Jx (pre ++ [x]) W'))
    (W : World) (hbW : b < W.heap.size) (hBpW : Bp < W.heap.size) (hBs : W.cell? ⟨Bs, 0, none⟩ = some (.slice (some ⟨b, off, none⟩) qs.length cap)) (hcp : W.cell? ⟨Bp, 0, none⟩ = some (.int .i64 fr))
    (hc : ∀ j (h : j < qs.length), W.cell? ⟨b, off + j * 2, none⟩ = some (.int .i64 qs[j].1) ∧ W.cell? ⟨b, off + j * 2 + 1, none⟩ = some (.bool qs[j].2)) (h0 : J [] W) :
    CallsIn Fence.wide n Tryz.prog 196 #[.func (.yield l) #[] #[], .pointer (some ⟨Bs, 0, none⟩), .pointer (some ⟨Bp, 0, none⟩)] W fun e W' => (∃ v, e = .returned v) ∧
      ((∃ ys, ys = vis qs fr ∧ J ys W') ∨ (∃ pre, pre <+: vis qs fr ∧ Jx pre W')) := by
  have hmix : Tryz.prog.follows .mixedOrders = true := by kernel_rfl
  refine callsIn_of_wp Tryz.func196 rfl trivial ?_ rfl
  simp only [Tryz.ntmps196, List.size_toArray, List.length_cons, List.length_nil, Nat.reduceAdd, Nat.reduceSub, Array.replicate_succ, Array.replicate_zero, List.push_toArray, List.append_toArray, List.nil_append, List.cons_append]
  gi_wp2
  refine wpIn_wide.2 (wp_scope_straight (wpIn_wide (n := n).1 (wpIn_seq (wpIn_label ?_))))
  gi_wp2
  gi_loopw [8] (fun i wr => ∃ k : Nat, k ≤ qs.length ∧ i = .int .i64 k ∧ J (visTo qs fr k) wr ∧ Upd S W wr)
    (fun i _ => qs.length - (intOf i).toNat)
  case atStart => exact ⟨0, Nat.zero_le _, rfl, h0, Upd.refl _ _⟩
  case round =>
    obtain ⟨k, hk, rfl, hJs, hnx⟩ := hrel
    have hct' : wr.cell? ⟨Bp, 0, none⟩ = some (.int .i64 fr) := (hnx.cellAt hBpW hBp).trans hcp
    by_cases hlt : k < qs.length
    · have hc0 : wr.cell? ⟨b, off + k * 2, none⟩ = some (.int .i64 qs[k].1) := (hnx.cellAt hbW hb).trans (hc k hlt).1
      have hc1 : wr.cell? ⟨b, off + k * 2 + 1, none⟩ = some (.bool qs[k].2) := (hnx.cellAt hbW hb).trans (hc k hlt).2
      by_cases hq : qs[k] = (-1, false)
      · have HM : Hid (visTo qs fr (k + 1) = visTo qs fr k) := visTo_miss hlt hq
        rw [hq] at hc0 hc1
        clear hq
        have HP0 : Hid ((wr.alloc (.cells #[.int .i64 (-1), .bool false] 108)).drew.cell? ⟨wr.heap.size, 0, none⟩ = some (.int .i64 (-1))) := cell_of_block (heap_alloc_last wr _ rfl) 0
        have HP1 : Hid ((wr.alloc (.cells #[.int .i64 (-1), .bool false] 108)).drew.cell? ⟨wr.heap.size, 1, none⟩ = some (.bool false)) := cell_of_block (heap_alloc_last wr _ rfl) 1
        gi_wp2
        gi_region_with_o (first | refine ⟨trivial, fun _ => by omega, ?_⟩ | skip; gi_at_call 148; refine (callsIn_wide.2 (nowhere_ok _)).mono ?_; rintro e w3 ⟨rfl, hu3, hz3⟩; have k0 := (hu3.cellAt (by simp) (fun h => h)).trans HP0.out; have k1 := (hu3.cellAt (by simp) (fun h => h)).trans HP1.out)
        all_goals
          have hu4 : Upd (fun _ => False) wr w3 := ((Upd.refl (fun _ => False) wr).alloc _).trans hu3.undrew
          have HJ := Lib.hid (abides_new hJ hJs hu4)
          have HU := Lib.hid (hnx.trans (hu4.mono (S' := S) (fun _ _ h => h.elim)))
          clear hu3 hz3 k0 k1 hu4
          gi_wp2
          go_roundw
          case rel => exact ⟨k + 1, by omega, by simp, by rw [HM.out]; exact HJ.out, HU.out⟩
          case measure => simp [intOf]; omega
      · have hs : 0 ≤ qs[k].1 := (hgood k hlt).resolve_left hq
        have hsb : (qs[k].1 == -1) = false := by simp; omega
        have HM : Hid (visTo qs fr (k + 1) = visTo qs fr k ++ [(fr + k, qs[k])]) := visTo_hit hlt hq
        clear hq
        have HP0 : Hid ((wr.alloc (.cells #[.int .i64 qs[k].1, .bool qs[k].2] 108)).drew.cell? ⟨wr.heap.size, 0, none⟩ = some (.int .i64 qs[k].1)) := cell_of_block (heap_alloc_last wr _ rfl) 0
        have HP1 : Hid ((wr.alloc (.cells #[.int .i64 qs[k].1, .bool qs[k].2] 108)).drew.cell? ⟨wr.heap.size, 1, none⟩ = some (.bool qs[k].2)) := cell_of_block (heap_alloc_last wr _ rfl) 1
        gi_wp2
        gi_region_with_o (first | refine ⟨trivial, fun _ => by omega, ?_⟩ | skip; gi_at_call 148; refine (callsIn_wide.2 (nowhere_ok _)).mono ?_; rintro e w3 ⟨rfl, hu3, hz3⟩; have k0 := (hu3.cellAt (by simp) (fun h => h)).trans HP0.out; have k1 := (hu3.cellAt (by simp) (fun h => h)).trans HP1.out)
        all_goals
          have hu4 : Upd (fun _ => False) wr w3 := ((Upd.refl (fun _ => False) wr).alloc _).trans hu3.undrew
          have HJ := Lib.hid (abides_new hJ hJs hu4)
          have hnx4 := hnx.trans (hu4.mono (S' := S) (fun _ _ h => h.elim))
          have c4 : w3.cell? ⟨Bp, 0, none⟩ = some (.int .i64 fr) := (hnx4.cellAt hBpW hBp).trans hcp
          have HU := Lib.hid hnx4
          obtain ⟨fn, tmps, assign, body, hy, hR⟩ := hY _ (fr + k, qs[k]) w3 HJ.out (by rw [← HM.out]; exact visTo_prefix qs fr (by omega))
          simp only [enc9, Int.natCast_add] at hy
          clear hu3 hz3 hu4 hnx4
          gi_wp2
          refine ⟨fun _ => by omega, ?_⟩
          refine hR.mono ?_
          rintro e W3 (⟨rfl, hJ3, hk3⟩ | ⟨rfl, hJx3⟩)
          · have HJ3 := Lib.hid hJ3
            have HU3 := Lib.hid (HU.out.trans (hk3.mono (fun _ _ h => h)))
            clear hJ3 hk3 hR
            gi_wp2
            go_roundw
            case rel => exact ⟨k + 1, by omega, by simp, by rw [HM.out]; exact HJ3.out, HU3.out⟩
            case measure => simp [intOf]; omega
          · clear hR
            gi_wp2
            rw [Exit.noGoto_ret]
            refine bodyPost_ret (results_none rfl _ _ _) rfl ?_
            exact ⟨⟨_, rfl⟩, .inr ⟨_, by rw [← HM.out]; exact visTo_prefix qs fr (by omega), hJx3⟩⟩
    · obtain rfl : k = qs.length := by omega
      gi_wp2
      rw [Exit.noGoto_normal]
      go_end0
      exact ⟨⟨_, rfl⟩, .inl ⟨_, rfl, hJs⟩⟩
abbrev ItM (qs : List (Int × Bool)) (fr : Nat) := { x : It9 // x ∈ vis qs fr }
theorem prefix_at {L pre : List It9} {x : It9} (h : pre ++ [x] <+: L) : x ∈ L ∧ pre.length < L.length := by
  refine ⟨h.subset (by simp), ?_⟩
  have := h.length_le
  simp at this
  omega
theorem it_stopsM (n : Nat) (hn : 2 ≤ n) (S : Nat → Prop) (Bs Bp b off cap : Nat) (qs : List (Int × Bool)) (fr : Nat) (w : World) (hle : qs.length ≤ 4096) (hfr : fr ≤ 4096) (hgood : ∀ k (h : k < qs.length), qs[k] = (-1, false) ∨ 0 ≤ qs[k].1)
    (hb : b < w.heap.size) (hBp : Bp < w.heap.size) (hBs : Bs < w.heap.size) (hbS : ¬ S b) (hBpS : ¬ S Bp)
    (hcs : w.cell? ⟨Bs, 0, none⟩ = some (.slice (some ⟨b, off, none⟩) qs.length cap)) (hcp : w.cell? ⟨Bp, 0, none⟩ = some (.int .i64 fr))
    (hc : ∀ j (h : j < qs.length), w.cell? ⟨b, off + j * 2, none⟩ = some (.int .i64 qs[j].1) ∧ w.cell? ⟨b, off + j * 2 + 1, none⟩ = some (.bool qs[j].2)) :
    SeqStopsK Fence.wide n Tryz.prog 196 #[.pointer (some ⟨Bs, 0, none⟩), .pointer (some ⟨Bp, 0, none⟩)] (fun x : ItM qs fr => enc9 x.1) (Upd S) (fun ys => ys.map (·.1) = vis qs fr) (fun pre => pre.map (·.1) <+: vis qs fr) (vis qs fr).length w := fun l J Jx W hW hJ _ hY h0 => by
  refine (it_inM n hn S l Bs Bp b off cap qs fr hle hfr hgood hbS hBpS (fun ys X => ∃ zs : List (ItM qs fr), zs.map (·.1) = ys ∧ J zs X) (fun ys X => ∃ zs : List (ItM qs fr), zs.map (·.1) = ys ∧ Jx zs X) W.heap.size
    (fun ys X Y row h hg hr => by obtain ⟨zs, hz, h⟩ := h; exact ⟨zs, hz, hJ zs X Y row h hg hr⟩) ?_ W (Nat.lt_of_lt_of_le hb hW.size) (Nat.lt_of_lt_of_le hBp hW.size) ((hW.cell (p := ⟨Bs, 0, none⟩) hBs).trans hcs) ((hW.cell (p := ⟨Bp, 0, none⟩) hBp).trans hcp)
    (fun j hj => ⟨(hW.cell (p := ⟨b, off + j * 2, none⟩) hb).trans (hc j hj).1, (hW.cell (p := ⟨b, off + j * 2 + 1, none⟩) hb).trans (hc j hj).2⟩) ⟨[], rfl, h0⟩).mono ?_
  · rintro pre x X ⟨zs, hz, hJz⟩ hp
    obtain ⟨hx, hl⟩ := prefix_at hp
    obtain ⟨fn, tmps, assign, body, hy, hR⟩ := hY zs ⟨x, hx⟩ X hJz (by have := congrArg List.length hz; simp at this; omega)
    refine ⟨fn, tmps, assign, body, hy, hR.mono ?_⟩
    rintro e Y (⟨h1, h2, h3⟩ | ⟨h1, h2⟩)
    · exact .inl ⟨h1, ⟨_, by rw [List.map_append, hz]; rfl, h2⟩, h3⟩
    · exact .inr ⟨h1, ⟨_, by rw [List.map_append, hz]; rfl, h2⟩⟩
  · rintro e Y ⟨hv, ⟨ys, hys, zs, hz, h⟩ | ⟨ys, hys, zs, hz, h⟩⟩
    · exact ⟨hv, .inl ⟨zs, hz.trans hys, h⟩⟩
    · exact ⟨hv, .inr ⟨zs, by show List.map (fun x => x.val) zs <+: vis qs fr; rw [hz]; exact hys, h⟩⟩
attribute [local go_sem] Oper.semAt_some
theorem boxed_kept {A B : World} {row : Option Nat} {b : Nat} {t : TypeId} {v : Value} (hs : Boxed A b t v) (hg : A.grownBy B row) (hr : ∀ r, row = some r → ∃ o : Obj, A.heap[r]? = some o ∧ o.isCells = false) : Boxed B b t v :=
  hs.kept hg (fun e => by
    obtain ⟨o, ho, hc⟩ := hr _ e.symm
    rw [show A.heap[b]? = _ from hs] at ho
    cases ho
    simp [Obj.isCells] at hc)
/-! ### spans in parts -/
theorem row_kept {X Y : World} {row : Option Nat} {M sz : Nat} {e : TypeId} {v : Value} {n : Nat} {xs : List Value} (h : X.ownsRow M e sz v n xs) (hg : X.grownBy Y row) (hr : ∀ r, row = some r → ∃ o : Obj, X.heap[r]? = some o ∧ o.isCells = false) : Y.ownsRow M e sz v n xs := by
  refine h.kept hg ?_
  rcases h.2 with ⟨rfl, _⟩ | ⟨g, cap, cur, rfl, _, hgb, _⟩
  · exact .inl rfl
  · refine .inr (fun e' => ?_)
    obtain ⟨o, ho, hc⟩ := hr g e'.symm
    rw [hgb] at ho
    cases ho
    simp [Obj.isCells] at hc
def plBox (x : It9) (pb : Nat) (W : World) : Prop := W.heap[pb]? = some (.cells #[.int .i64 x.2.1, .bool x.2.2] 108 (0, 0))
theorem block_kept {X Y : World} {row : Option Nat} {b : Nat} {cs : Array Value} {T : TypeId} (h : X.heap[b]? = some (.cells cs T (0, 0))) (hg : X.grownBy Y row) (hr : ∀ r, row = some r → ∃ o : Obj, X.heap[r]? = some o ∧ o.isCells = false) : Y.heap[b]? = some (.cells cs T (0, 0)) :=
  (hg.block b (Array.getElem?_eq_some_iff.1 h).1 (fun e => by
    obtain ⟨o, ho, hc⟩ := hr b e.symm
    rw [h] at ho
    cases ho
    simp [Obj.isCells] at hc)).trans h
theorem plBox_own (B : Nat) (x : It9) (pb : Nat) : OwnFrom B (fun (_ : Unit) W => plBox x pb W) := fun _ _ _ _ hs hg hr => block_kept hs hg (fun r e => (hr r e).2)
theorem infoI9s : (Tryz.prog.info? 3).map (fun i => (i.zero, i.size, i.bytes)) = some (some (.int .i64 0), 1, 8) := by kernel_rfl
theorem upd_below {n₀ : Nat} {W W' : World} (h : Below n₀ W W') : Upd (fun j => n₀ ≤ j) W W' := ⟨h.os, h.tape, h.output, h.size, fun k _ hs => h.block k (by omega)⟩
end Go.Proofs.YtnadilfobmgebaaGreatDoor
namespace Go.Proofs.YtnadilfobmgebaaGreatDoor
open Go
def noDefer (o : Oper) : Bool := match o.op with
  | .defer _ => false
  | _ => true
theorem noDefer_spec {o : Oper} (h : noDefer o = true) (c : Call) : o.op ≠ .defer c := by
  intro e
  unfold noDefer at h
  rw [e] at h
  cases h
set_option maxRecDepth 100000 in
theorem run_eqIn_place (w : World) (d : Nat) (a c : Int) (b e : Bool) : (Op.equalIn (d + 1 + 1) 108 (.agg #[.int .i64 a, .bool b]) (.agg #[.int .i64 c, .bool e])).run Tryz.prog w = .ok (a == c && b == e) w := by
  have hu := Tryz.underlying108
  obtain ⟨fs, hfs⟩ : ∃ fs, Tryz.prog.underlying 108 = some (.struct fs) := ⟨_, hu⟩
  have hF : Tryz.prog.fieldsOf 108 = fs := by unfold Program.fieldsOf; rw [hfs]
  have hfe := hfs.symm.trans hu
  injection hfe with hfe
  injection hfe with hfe
  have h2 := fun (x y : Bool) => run_equalIn_bool (P := Tryz.prog) w d 4 x y Tryz.underlying4
  rw [run_equalIn_struct w (d + 1) _ _ _ (by rw [hF]; exact hfs) (by kernel_rfl), hF, hfe]
  by_cases hac : a = c
  · simp [Op.eqFields, go_sem, h2, hac, Result.andThen]
    by_cases hbe : b = e <;> simp [hbe]
  · simp [Op.eqFields, go_sem, hac, Result.andThen]
section
variable {n l0 : Nat} {P : Program} {ops : Array Oper} {Q : Exit → Act → World → Prop}
theorem rows_in {row : String} {args : Array Value} {w : World} {R : Value → World → Prop} (h : Go.Rows P row args w R) : RowsIn (Fence.wide.inRound l0) n P row args w R :=
  fun c cs _ => let ⟨v, w', r, s⟩ := h c cs; ⟨v, w', r, stepsIn_wide.2 s⟩
theorem calls_in {f : FuncId} {args : Array Value} {w : World} {R : Ending → World → Prop} (h : Calls P f args w R) : CallsIn (Fence.wide.inRound l0) n P f args w R :=
  CallsIn.inRound l0 (callsIn_wide.2 h)
theorem uponIn_of_upon {o : Oper} {a : Act} {next : Act → World → Prop} {r : Result Next} (h : o.upon P a next Q r) : o.uponIn (Fence.wide.inRound l0) n P a next Q r := by
  unfold Oper.upon at h
  split at h
  · exact h
  · exact h
  · exact h
  · exact ⟨(fun e => by cases e), calls_in h⟩
  · exact ⟨(fun e => by cases e), rows_in h⟩
  · exact h
  · exact h.elim
theorem wpOpIn_of_wpOp (hQ : ¬ LetsOut Q) (hnd : ∀ (j : Nat) (o : Oper), ops[j]? = some o → noDefer o = true) {i : Nat} {K K' : Act → World → Prop} (hK : ∀ a w, K a w → K' a w) {a : Act} {w : World} (h : wpOp P ops Q i K a w) :
    wpOpIn (Fence.wide.inRound l0) n P ops Q i K' a w := by
  have h' := wpOp_mono hK h
  unfold wpOp at h'
  unfold wpOpIn
  cases ho : ops[i]? with
  | none => simp only [ho] at h' ⊢; exact h'
  | some o =>
    have hnd' := hnd i o ho
    simp only [ho] at h' ⊢
    by_cases hw : Region.wanted o (yielded ops a.tmps) = true
    · rw [if_pos hw] at h' ⊢
      rcases h' with h' | ⟨-, h'⟩
      · refine ⟨fun _ _ => trivial, ?_⟩
        rw [show (Fence.wide.inRound l0).round = some l0 from rfl, Oper.semAt_some _ _ _ (noDefer_spec hnd')]
        exact uponIn_of_upon h'
      · exact absurd h' hQ
    · rw [if_neg hw] at h' ⊢
      exact ⟨fun _ _ => trivial, h'⟩
theorem wpAnyIn_of_wpAny (hQ : ¬ LetsOut Q) (md : Region.Mode) (hnd : ∀ (j : Nat) (o : Oper), ops[j]? = some o → noDefer o = true) : ∀ (fuel : Nat) (listed : Array Bool) (a : Act) (w : World),
    wpAny P md ops Q fuel listed a w → wpAnyIn (Fence.wide.inRound l0) n P md ops Q fuel listed a w
  | 0, _, _, _, h => h
  | fuel + 1, _, _, _, h => ⟨h.1, fun i hi => wpOpIn_of_wpOp hQ hnd (fun a' w' h' => wpAnyIn_of_wpAny hQ md hnd fuel _ a' w' h') (h.2 i hi)⟩
theorem wpIn_region_held_round {S : World → Prop} {id : Nat} {a : Act} {w : World} {l : List Oper} (hQ : ¬ LetsOut Q) (hm : P.follows .mixedOrders = true) (hnd : l.all noDefer = true) (hS : S w.drew)
    (h : S w.drew → wpAnyH P .any l.toArray Q S l.toArray.size (Array.replicate l.toArray.size false) a w.drew) : (Code.region id l.toArray true).wpIn (Fence.wide.inRound l0) n P Q a w :=
  wpIn_region_any hm (wpAnyIn_of_wpAny hQ .any (fun j o ho => List.all_eq_true.1 hnd o (by rw [List.getElem?_toArray] at ho; exact List.mem_of_getElem? ho)) _ _ _ _ (wpAny_of_held _ _ _ _ (h hS)))
end
end Go.Proofs.YtnadilfobmgebaaGreatDoor
namespace Go.Proofs.YtnadilfobmgebaaGreatDoor
open Go Go.RowKit Go.Maps
theorem MapAt.look1 {w : World} {mb N : Nat} {f : Int → Option Nat} (h : MapAt w mb N f) {x : Int} (h1 : -9223372036854775808 ≤ x) (h2 : x < 9223372036854775808) :
    (Instr.lookup 168 (.map (some mb)) (.int .i64 x) false).run Tryz.prog w = .ok (.int .i64 (((f x).getD 0 : Nat) : Int)) w := by
  obtain ⟨D, ho, hf⟩ := h
  obtain ⟨v, ps, hr, hv⟩ := ho.lookup keyedI Tryz.underlying168 (zeroI w) (plainElem_int Tryz.underlying3 (by decide)) (keyI h1 h2)
  obtain ⟨c, rfl, hc, hwc⟩ := plainElem_int_inv Tryz.underlying3 hv
  simp only [Prod.mk.injEq] at hc
  rw [hr]
  have : c = (((f x).getD 0 : Nat) : Int) := by
    cases hx : f x with
    | none =>
      have h0 := (hf x).1
      rw [hx] at h0
      have := atKey_of_not_has (D := D) h0 (.lit (.int .i64 0))
      rw [this] at hc
      simp at hc
      simpa using hc.1.symm
    | some c' =>
      have := (hf x).2 c' hx (.lit (.int .i64 0))
      rw [this] at hc
      simp at hc
      simpa using hc.1.symm
  rw [this]
end Go.Proofs.YtnadilfobmgebaaGreatDoor
