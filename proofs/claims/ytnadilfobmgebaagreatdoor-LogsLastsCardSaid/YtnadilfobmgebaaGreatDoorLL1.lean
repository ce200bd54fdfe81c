/- A device's Copy. A device's Crash: of the open writes those are there that are kept. A device's Plan: fates behind what was planned. A new thing of many cells: its cells by a name. The log of intents: its kind of things; Next. Intents: their numbers, which may be, and the intent of numbers. The form of intents. An intent as a sector: PutCert. What every law's row asks behind the call, out of 'it returned true, and nothing that was there has turned'. The form of the kind Failure; Put of a thing. What a put does to logs that are new; logs beside what their caller lays. What is read of sectors that were written since, and a check of them. Things of a log, counted by their numbers in a map: the plain part; a map's look-up without ok; one thing of a slice of things. Things of numbers from 0 to 11 in the three logs: what the logs hold behind puts, by the bits of numbers. What a log of intents holds where the device fails: the plain part. Are the things of the logs' law not too many, and small? (lavabolaw17.right) The two tables of the law that what was put lasts: in memory. Which logs there are not; what nil logs answer. -/
import Derived.Test.YtnadilfobmgebaaGreatDoorG01
import Derived.Test.YtnadilfobmgebaaGreatDoorG02
import Derived.Test.YtnadilfobmgebaaGreatDoorG03
import Derived.Test.YtnadilfobmgebaaGreatDoorG04
import Derived.Test.YtnadilfobmgebaaGreatDoorG05
import Derived.Test.YtnadilfobmgebaaGreatDoorG06
import Derived.Test.YtnadilfobmgebaaGreatDoorG07
import Derived.Test.YtnadilfobmgebaaGreatDoorG08
import Derived.Test.YtnadilfobmgebaaGreatDoorG09
import Derived.Test.YtnadilfobmgebaaGreatDoorG10
import Derived.Test.YtnadilfobmgebaaGreatDoorG11
import Derived.Test.YtnadilfobmgebaaGreatDoorG12
import Derived.Test.YtnadilfobmgebaaGreatDoorG13
import Derived.Test.YtnadilfobmgebaaGreatDoorG14
import Derived.Test.YtnadilfobmgebaaGreatDoorG15
import Derived.Test.YtnadilfobmgebaaGreatDoorG16
import Derived.Test.YtnadilfobmgebaaGreatDoorG17
import Derived.Test.YtnadilfobmgebaaGreatDoorG18
import Derived.Test.YtnadilfobmgebaaGreatDoorG19
import Derived.Test.YtnadilfobmgebaaGreatDoorG20
import Derived.Test.YtnadilfobmgebaaGreatDoorG21
import Derived.Test.YtnadilfobmgebaaGreatDoorG22
import Derived.Test.YtnadilfobmgebaaGreatDoorG23
import Derived.Test.YtnadilfobmgebaaGreatDoorG24
import Derived.Test.YtnadilfobmgebaaGreatDoorG25
import Derived.Test.YtnadilfobmgebaaGreatDoorG26
import Derived.Test.YtnadilfobmgebaaGreatDoorG27
import Derived.Test.YtnadilfobmgebaaGreatDoorG28
import Derived.Test.YtnadilfobmgebaaGreatDoorG29
import Derived.Test.YtnadilfobmgebaaGreatDoorG30
import Derived.Laws.EntriesVeiled
import Derived.Deep.Slices
import Derived.Lib.SmallJoins
import Derived.Deep.Strs
namespace Go.Proofs.YtnadilfobmgebaaGreatDoor
open Go Go.RowKit
set_option maxRecDepth 100000 in
theorem cloneDB_any {w : World} {v : Value} {n : Nat} {xs : List Value} (h : Rd w 64 v n xs) (hn : n ≤ 65536) (hone : ∀ u ∈ xs, u.oneCell' = true) :
    Calls Tryz.prog 68 #[v] w fun e w' => ∃ v', e = .returned v' ∧ Sl w' 23 64 v' n xs ∧ From w.heap.size v' ∧ Below w.heap.size w w' := by
  obtain ⟨i0, hi, hz0, hz1, hz2⟩ := info_parts infoBk
  obtain ⟨z0, hz, hzs⟩ : ∃ z, i0.zero = some z ∧ z.cells.size = 64 := ⟨_, hz0, by simp [bkV, Value.cells, zB, bkC]⟩
  clear hz0
  have H := Lib.hid h
  obtain ⟨hl, hm, ao, c, rfl, h0, -⟩ := h
  have q34 := fun (w : World) (a : Option Addr) (n c : Nat) => Lib.run_eql_slice_nil (P := Tryz.prog) w 132 23 a n c 0 0 Tryz.underlying132
  cases ao with
  | none =>
    obtain rfl := h0 rfl
    have hx : Hid (xs = []) := List.eq_nil_of_length_eq_zero (by simpa using hl)
    clear hl h0 hm
    go_enter Tryz.func68, Tryz.ntmps68
    go_wp2
    go_ret
    rw [hx.out]
    exact ⟨_, rfl, Sl.nil _ _ _, From.nil _ _ _, Below.refl _ _⟩
  | some a =>
    clear h0 hl
    have hs0 : Sl (w.alloc (.cells #[] 23)) 23 64 (.slice (some ⟨w.heap.size, 0, none⟩) 0 0) 0 [] :=
      ⟨by simp, .inr ⟨w.heap.size, 0, 0, #[], rfl, heap_alloc_last _ _ rfl, by simp, by simp [maxLen], by simp, by simp⟩⟩
    have HR : Hid (Rd (w.alloc (.cells #[] 23)) 64 (.slice (some a) n c) n xs) := H.out.keep ((Upd.refl (fun _ => False) _).alloc _) (fun _ _ h => h)
    go_enter Tryz.func68, Tryz.ntmps68
    go_wp2_with (at_builtin; refine wpList_append_sl rfl _ _ 132 rfl i0 z0 64 Tryz.underlying132 hi hz hz1 hz2 hzs (by decide) rfl hs0 _ n xs rfl HR.out hone (by unfold maxLen; omega) (by omega) ?_)
    intro v' w2 hs2 hu2 hb2
    go_wp2
    go_ret
    refine ⟨_, rfl, by simpa using hs2, ?_, ?_⟩
    · exact hb2.ge (by simp) (by intro g hg; simp [Value.ownBlock] at hg; omega)
    · refine below_upd ((Below.refl _ _).alloc (Nat.le_refl _) _) hu2 (Nat.le_refl _) (by intro k hk; simp [ownS, Value.ownBlock] at hk; omega)
theorem infoI3 : (Tryz.prog.info? 3).map (fun i => (i.zero.map (·.cells.size), i.size, i.bytes)) = some (some 1, 1, 8) := by kernel_rfl
theorem rowC_oneD (F : List Bk) : ∀ u ∈ rowC F, u.oneCell' = true := by
  intro u hu
  simp only [rowC, List.mem_flatMap] at hu
  obtain ⟨x, -, hx⟩ := hu
  exact bkC_one x u hx
theorem ints_oneD (P : List Int) : ∀ u ∈ ints P, u.oneCell' = true := by
  intro u hu
  simp only [ints, List.mem_map] at hu
  obtain ⟨x, -, rfl⟩ := hu
  rfl
end Go.Proofs.YtnadilfobmgebaaGreatDoor
namespace Go.Proofs.YtnadilfobmgebaaGreatDoor
open Go Go.RowKit
def crashF (F : List Bk) (O : List (Nat × Bk)) (l : List Bool) : List Bk := (l.zip O).foldl (fun F p => if p.1 = true then F.set p.2.1 p.2.2 else F) F
theorem zip_snoc {α : Type} {l : List Bool} {O : List α} {k : Nat} (hk : k < l.length) (hO : l.length ≤ O.length) : (l.take (k + 1)).zip O = (l.take k).zip O ++ [(l[k], O[k]'(by omega))] := by
  induction l generalizing O k with
  | nil => simp at hk
  | cons a l ih =>
    cases O with
    | nil => simp at hO
    | cons o O =>
      cases k with
      | zero => simp
      | succ k =>
        have := ih (O := O) (k := k) (by simpa using hk) (by simpa using hO)
        simp only [List.take_succ_cons, List.zip_cons_cons, List.cons_append, List.getElem_cons_succ]
        rw [this]
theorem crashF_snoc {F : List Bk} {O : List (Nat × Bk)} {l : List Bool} {k : Nat} (hk : k < l.length) (hO : l.length ≤ O.length) :
    crashF F O (l.take (k + 1)) = if l[k] = true then (crashF F O (l.take k)).set (O[k]'(by omega)).1 (O[k]'(by omega)).2 else crashF F O (l.take k) := by
  unfold crashF
  rw [zip_snoc hk hO, List.foldl_append]
  rfl
theorem crashF_len (F : List Bk) (O : List (Nat × Bk)) (l : List Bool) : (crashF F O l).length = F.length := by
  unfold crashF
  induction l.zip O generalizing F with
  | nil => rfl
  | cons p L ih =>
    simp only [List.foldl_cons]
    rw [ih]
    split <;> simp
abbrev bools (l : List Bool) : List Value := l.map Value.bool
theorem DvGood.crashed {F : List Bk} {O : List (Nat × Bk)} {P : List Int} (h : DvGood F O P) : DvGood F [] [] := { h with o64 := by simp, ol := by simp, pl := by simp }
set_option maxRecDepth 100000 in
set_option maxHeartbeats 2000000 in
theorem dcrash {S : Nat → Prop} {w : World} {b : Nat} {F : List Bk} {O : List (Nat × Bk)} {P : List Int} (h : Dv S w b F O P) {vk : Value} {l : List Bool} (hk : Rd w 1 vk l.length (bools l)) (hlO : l.length ≤ O.length) :
    Calls Tryz.prog 31 #[.pointer (some ⟨b, 0, none⟩), vk] w fun e w' => ∃ b2, e = .returned (.tuple #[.pointer (some ⟨b2, 0, none⟩), .int .i64 0]) ∧ Dv (fun j => w.heap.size ≤ j) w' b2 (crashF F O l) [] [] ∧ Below w.heap.size w w' := by
  obtain ⟨vf, vo, vp, h, -⟩ := h
  obtain ⟨c0, c1, -⟩ := h.c
  obtain ⟨ao, co, rfl⟩ := h.os.rd.nil_iff
  obtain ⟨ak, ck, rfl⟩ := hk.nil_iff
  have hol := h.good.ol
  have hlb : b < w.heap.size := lt_of_block h.str
  have HCl := Lib.hid (cloneDB_any h.fs.rd (by have := h.good.fl; omega) (rowC_oneD F))
  have H := Lib.hid (And.intro h hk)
  have hlO' : (l.length : Int) ≤ (O.length : Int) := by omega
  clear h hk
  go_enter Tryz.func31, Tryz.ntmps31
  go_wp2_with fail
  refine HCl.out.mono ?_
  rintro e w1 ⟨v1, rfl, s1, f1, b1⟩
  obtain ⟨a1, k1, rfl⟩ := s1.rd.nil_iff
  have hu1 := Upd.of_below (S := fun _ => False) b1
  have HB1 := Lib.hid (And.intro s1 (And.intro f1 b1))
  clear s1 f1 b1 c0
  obtain ⟨w2, hw2⟩ : ∃ w2, w2 = w1.alloc (.cells #[(.slice a1 F.length k1), .slice none 0 0, .slice none 0 0] 134) := ⟨_, rfl⟩
  have HW2 := Lib.hid hw2
  have hD2 : DvAt w2 w1.heap.size (.slice a1 F.length k1) (.slice none 0 0) (.slice none 0 0) F [] [] := by
    have hA : Upd (fun _ => False) w1 w2 := by rw [hw2]; exact (Upd.refl _ _).alloc _
    obtain ⟨s1, f1, b1⟩ := HB1.out
    exact ⟨by rw [hw2]; exact heap_alloc_last _ _ rfl, s1.keep hA (fun _ _ h => h), Sl.nil _ _ _, Sl.nil _ _ _, H.out.1.good.crashed, fun e => by have := s1.lt e; omega, (by simp [Value.ownBlock]), (by simp [Value.ownBlock]), (Dis.nil _ _ _).symm, (Dis.nil _ _ _).symm, Dis.nil _ _ _⟩
  have hU2 : Upd (fun _ => False) w w2 := by rw [hw2]; exact hu1.alloc _
  have H2 := Lib.hid (And.intro hD2 hU2)
  clear hu1 hD2 hU2 hw2
  go_wp2
  rw [← HW2.out]
  go_loopw [28] (fun i wr => ∃ k : Nat, k ≤ l.length ∧ i = .int .i64 k ∧ DvAt wr w1.heap.size (.slice a1 F.length k1) (.slice none 0 0) (.slice none 0 0) (crashF F O (l.take k)) [] [] ∧ Upd (fun j => (Value.slice a1 F.length k1).ownBlock = some j) w2 wr)
    (fun i _ => l.length - (intOf i).toNat)
  case atStart => exact ⟨0, Nat.zero_le _, rfl, H2.out.1, Upd.refl _ _⟩
  case round =>
    obtain ⟨k, hk, rfl, hd, hu⟩ := hrel
    have hfs : ∀ j, (Value.slice a1 F.length k1).ownBlock = some j → w.heap.size ≤ j := fun j hj => HB1.out.2.1 j hj
    have hUw : Upd (fun j => w.heap.size ≤ j) w wr := (H2.out.2.mono (fun _ _ h => h.elim)).trans (hu.mono (fun j _ hj => hfs j hj))
    have hBw : Below w.heap.size w wr := Upd.below ((Upd.refl (fun _ => False) w).new hUw (fun i hi hs => by omega))
    by_cases hlt : k < l.length
    · have hkr := H.out.2.below hBw
      obtain ⟨blk, ofk, cpk, e1, -, hck⟩ := hkr.at (by omega)
      cases e1
      have hb := hck k (.bool l[k]) (by rw [List.getElem?_map, List.getElem?_eq_getElem hlt]; rfl)
      have hsn := crashF_snoc (F := F) hlt hlO
      obtain ⟨t, ht⟩ : ∃ t, t = l[k] := ⟨_, rfl⟩
      rw [← ht] at hb hsn
      have HT := Lib.hid hsn
      clear hck hsn hkr ht
      cases t with
      | false =>
        have HS := Lib.hid (And.intro hd hu)
        clear hd hu hUw hfs hBw
        go_wp2
        go_roundw
        case rel => exact ⟨k + 1, by omega, by go_num, by rw [HT.out]; exact HS.out.1, HS.out.2⟩
        case measure => simp [intOf]; omega
      | true =>
        have hkO : k < O.length := by omega
        have h0 := H.out.1
        obtain ⟨gO, oO, cO, e1, hgO, hcO, rO⟩ := h0.opRange hkO
        obtain ⟨rfl, rfl⟩ : ao = some ⟨gO, oO, none⟩ ∧ co = cO := by injection e1 with e1 _ e2; exact ⟨e1, e2⟩
        clear e1
        have hsx := h0.good.o64 O[k] (List.getElem_mem hkO)
        obtain ⟨s, x, hO⟩ : ∃ s x, O[k] = (s, x) := ⟨_, _, rfl⟩
        rw [hO] at hsx rO HT
        obtain ⟨hx, hs⟩ := hsx
        obtain ⟨gF, oF, cF, e1, hgF, hcF, rF, tF⟩ := hd.fiRange (show s < (crashF F O (l.take k)).length by rw [crashF_len]; exact hs)
        have hrw := hBw.size
        have q1 := hUw.cellv c1 (by omega)
        have q2 := (Upd.of_below (S := fun _ => False) hBw).range rO (fun h => h)
        have q3 : wr.rangeAt gO (oO + k * 65 + 1) (bkC x) := fun j v hv => by
          have := q2 (1 + j) v (by rw [Nat.add_comm]; exact hv)
          rw [← this]; congr 2; omega
        have q4 : wr.cell? ⟨gO, oO + k * 65, none⟩ = some (.int .i64 (s : Int)) := q2 0 _ rfl
        obtain ⟨q5, -, -⟩ := hd.c
        have hGF : ¬ gO = gF := fun e => by have := hfs gF (by rw [e1] at *; simp [Value.ownBlock]); omega
        have hBF : ¬ b = gF := fun e => by have := hfs gF (by rw [e1] at *; simp [Value.ownBlock]); omega
        have h1F : ¬ w1.heap.size = gF := fun e => by have := HB1.out.1.lt (g := gF) (by rw [e1]; simp [Value.ownBlock]); omega
        have HD := Lib.hid (And.intro hd hu)
        have hE1 := Lib.hid e1
        have hut := Tryz.underlying23
        have hsi := sizeBk x hx
        have hlx : (bkC x).length = 64 := by rw [bkC_len, hx]
        have h1x := bkC_one x
        rw [crashF_len] at e1
        cases e1
        have hs1 : 0 ≤ (s : Int) := by omega
        have hs2 : (s : Int) < F.length := by omega
        have hk1 : (k : Int) < O.length := by omega
        obtain ⟨m, hm⟩ : ∃ m, m = w1.heap.size := ⟨_, rfl⟩
        rw [← hm] at q5 h1F ⊢
        have HM := Lib.hid hm
        clear hd hu hUw hfs hBw rO q2 tF rF h0 hgO hgF hm hcF hcO
        have q6 := (HD.out.1.fiRange (show s < (crashF F O (l.take k)).length by rw [crashF_len]; exact hs))
        obtain ⟨gF', oF', cF', e2, -, -, -, q7⟩ := q6
        have e3 := hE1.out.symm.trans e2
        cases e3
        clear e2
        go_upto_region 10 with fail
        clear hb
        go_region_held3 (fun W => W.cell? ⟨m, 0, none⟩ = some (.slice (some ⟨gF, oF, none⟩) F.length k1) ∧ W.cell? ⟨b, 1, none⟩ = some (.slice (some ⟨gO, oO, none⟩) O.length co) ∧ W.cell? ⟨gO, oO + k * 65, none⟩ = some (.int .i64 (s : Int)) ∧ W.rangeAt gO (oO + k * 65 + 1) (bkC x) ∧ W.there gF (oF + s * 64) 64)
          ((go_split_ands; (simp only [World.rangeAt_drew, World.there_drew, World.cell?_drew] at *); ((repeat' constructor) <;> first | assumption | (apply World.there_setCells; assumption) | (refine cell_keep_setCells ?_ ?_ <;> assumption) | (refine World.rangeAt_setCells_apart (by assumption) _ _ _ (by omega)))))
          (fail)
        rename_i hHeld
        clear hHeld q1 q3 q4 q5 q7
        have hset : DvAt (wr.drew.setCells gF (oF + s * 64) (bkC x)) w1.heap.size (.slice (some ⟨gF, oF, none⟩) F.length k1) (.slice none 0 0) (.slice none 0 0) (crashF F O (l.take (k + 1))) [] [] := by
          have h2 := HD.out.1.new ((Upd.refl (fun _ => False) _).drew)
          rw [← crashF_len F O (l.take k)] at h2
          have := h2.setFirm (s := s) (x := x) (by rw [crashF_len]; exact hs) hx
          rw [crashF_len] at this
          rw [HT.out, if_pos rfl]; exact this
        have hUs : Upd (fun j => (Value.slice (some ⟨gF, oF, none⟩) F.length k1).ownBlock = some j) w2 (wr.drew.setCells gF (oF + s * 64) (bkC x)) :=
          HD.out.2.drew.trans ((upd_row wr.drew gF (oF + s * 64) (bkC x)).mono (fun j _ e => by simp [Value.ownBlock, e]))
        have HS := Lib.hid (And.intro hset hUs)
        clear hset hUs
        go_wp2
        go_roundw
        case rel => exact ⟨k + 1, by omega, by go_num, by rw [HM.out]; exact HS.out.1, HS.out.2⟩
        case measure => simp [intOf]; omega
    · obtain rfl : k = l.length := by omega
      rw [List.take_length] at hd
      have HE := Lib.hid (And.intro hd hBw)
      clear hd hUw hu hfs hBw
      go_wp2
      go_ret2
      obtain ⟨hd, hBw⟩ := HE.out
      have hz1 := HB1.out.2.2.size
      refine ⟨w1.heap.size, rfl, ⟨_, _, _, hd, ?_⟩, hBw⟩
      rintro j (rfl | hj | hj | hj)
      · exact hz1
      · exact HB1.out.2.1 j hj
      · cases hj
      · cases hj
end Go.Proofs.YtnadilfobmgebaaGreatDoor
namespace Go.Proofs.YtnadilfobmgebaaGreatDoor
open Go Go.RowKit
set_option maxRecDepth 100000 in
set_option maxHeartbeats 1000000 in
theorem dplan {S : Nat → Prop} {w : World} {b : Nat} {F : List Bk} {O : List (Nat × Bk)} {P : List Int} (h : Dv S w b F O P) (hn : ∀ j, w.heap.size ≤ j → S j) {vk : Value} {l : List Int} (hk : Rd w 1 vk l.length (ints l))
    (hl : ∀ x ∈ l, 0 ≤ x ∧ x ≤ 2) (hP : P.length + l.length ≤ 65536) :
    Calls Tryz.prog 30 #[.pointer (some ⟨b, 0, none⟩), vk] w fun e w' => e = .returned (.int .i64 0) ∧ Dv S w' b F O (P ++ l) ∧ Upd S w w' := by
  obtain ⟨vf, vo, vp, h, hS⟩ := h
  obtain ⟨-, -, c2⟩ := h.c
  have z2 := h.fz 2
  obtain ⟨ap, cp, rfl⟩ := h.ps.rd.nil_iff
  obtain ⟨ak, ck, rfl⟩ := hk.nil_iff
  obtain ⟨i0, hi, hzz⟩ := Option.map_eq_some_iff.1 infoI3
  simp only [Prod.mk.injEq] at hzz
  obtain ⟨hz0, hz1, hz2⟩ := hzz
  obtain ⟨z0, hz, hzs⟩ := Option.map_eq_some_iff.1 hz0
  clear hz0
  have H := Lib.hid (And.intro h (And.intro hS (And.intro hn (And.intro hk (And.intro hl hP)))))
  have HI := Lib.hid (And.intro hi (And.intro hz1 (And.intro hz2 (And.intro hz hzs))))
  have hll : l.length ≤ 65536 := by omega
  clear h hS hn hk hl hP hi hz1 hz2 hz hzs
  go_enter Tryz.func30, Tryz.ntmps30
  go_wp2
  go_loopw [11] (fun i wr => ∃ k : Nat, k ≤ l.length ∧ i = .int .i64 k ∧ wr = w) (fun i _ => l.length - (intOf i).toNat)
  case atStart => exact ⟨0, Nat.zero_le _, rfl, rfl⟩
  case round =>
    obtain ⟨k, hk, rfl, rfl⟩ := hrel
    by_cases hlt : k < l.length
    · obtain ⟨blk, ofk, cpk, e1, -, hck⟩ := H.out.2.2.2.1.at (by omega)
      cases e1
      have hb := hck k (.int .i64 l[k]) (by simp [ints, List.getElem?_eq_getElem hlt])
      have hx := H.out.2.2.2.2.1 l[k] (List.getElem_mem hlt)
      generalize l[k] = x at hb hx
      obtain ⟨hx1, hx2⟩ := hx
      clear hck c2 z2
      go_wp2
      go_roundw
      case rel => exact ⟨k + 1, by omega, by go_num, trivial⟩
      case measure => simp [intOf]; omega
    · obtain rfl : k = l.length := by omega
      have hone := Lib.hid (ints_oneD l)
      have hps := Lib.hid H.out.1.ps
      go_wp2_with (first
        | (at_builtin; refine wpList_append_sl rfl _ _ 100 rfl i0 z0 8 Tryz.underlying100 HI.out.1 HI.out.2.2.2.1 HI.out.2.1 HI.out.2.2.1 HI.out.2.2.2.2 (by decide) rfl hps.out _ l.length (ints l) rfl H.out.2.2.2.1 hone.out (by unfold maxLen; have := H.out.2.2.2.2.2; omega) (by have := H.out.2.2.2.2.2; omega) ?_; intro v' w2 hs2 hu2 hb2; obtain ⟨a2, k2, rfl⟩ := hs2.rd.nil_iff; replace hu2 : Upd (ownS (.slice ap P.length cp)) wr w2 := hu2; replace hb2 : blockFrom wr (.slice ap P.length cp) (.slice a2 (P.length + l.length) k2) := hb2; have g2 := (hu2.block b (lt_of_block H.out.1.str) (fun h => H.out.1.pb h)).trans H.out.1.str; have c3 := cell_of_block g2 2; have z3 := frozen_of_block g2 2; have HA := Lib.hid (And.intro hs2 (And.intro hu2 (And.intro hb2 g2))); clear hs2 hu2 hb2 g2)
        | fail)
      go_ret
      obtain ⟨hs2, hu2, hb2, g2⟩ := HA.out
      obtain ⟨h, hS, hn, hk, hl, hP⟩ := H.out
      obtain ⟨u, hu⟩ : ∃ u : Value, u = .slice a2 (P.length + l.length) k2 := ⟨_, rfl⟩
      rw [← hu] at hs2 hb2 ⊢
      have hub : u.ownBlock ≠ some b := fun e => by
        rcases hb2 with h1 | ⟨g, h1, hle⟩
        · exact h.pb (by rw [← h1]; exact e)
        · rw [h1] at e; cases e; have := lt_of_block h.str; omega
      have hu3 : Upd (fun j => j = b) w2 (w2.setCell ⟨b, 2, none⟩ u) := upd_setCell _ _ _ _
      have hU : Upd S wr w2 := hu2.mono (fun j _ hj => hS j (.inr (.inr (.inr hj))))
      refine ⟨rfl, ⟨vf, vo, u, ?_, ?_⟩, hU.trans (hu3.mono (fun j _ e => e ▸ hS b (.inl rfl)))⟩
      · refine ⟨heap_setCell_same g2 2 u, (h.fs.keep hu2 (fun g h1 h2 => h.fp g h1 h2)).keep_ne hu3 h.fb, (h.os.keep hu2 (fun g h1 h2 => h.op g h1 h2)).keep_ne hu3 h.ob, ?_, ?_, h.fb, h.ob, hub, h.fo, (h.fp.symm.from hb2 (fun g hg => h.fs.lt hg)).symm, (h.op.symm.from hb2 (fun g hg => h.os.lt hg)).symm⟩
        · rw [List.length_append]
          have e : ints (P ++ l) = ints P ++ ints l := by simp [ints]
          rw [e]
          exact hs2.keep_ne hu3 hub
        · exact { h.good with pl := by rw [List.length_append]; exact hP }
      · rintro j (rfl | hj | hj | hj)
        · exact hS _ (.inl rfl)
        · exact hS _ (.inr (.inl hj))
        · exact hS _ (.inr (.inr (.inl hj)))
        · rcases hb2 with h1 | ⟨g, h1, hle⟩
          · exact hS _ (.inr (.inr (.inr (by rw [← h1]; exact hj))))
          · rw [h1] at hj; cases hj; exact hn _ hle
end Go.Proofs.YtnadilfobmgebaaGreatDoor
namespace Go.Proofs.YtnadilfobmgebaaGreatDoor
open Go Go.RowKit
theorem wpList_allocZ {ops : Array Oper} {rest : List Oper} {o : Oper} {a : Act} {w : World} {Q : Exit → Act → World → Prop} (hg : o.guard = none) (t : TypeId) (ho : o.op = .alloc t) (cs : Array Value)
    (hrun : ∀ w : World, (Instr.alloc t true (.tuple #[])).run Tryz.prog w = .ok (.pointer (some ⟨w.heap.size, 0, none⟩)) (w.alloc (.cells cs t)))
    (h : wpList Tryz.prog ops Q rest (a.put o.dst (.pointer (some ⟨w.heap.size, 0, none⟩))) (w.alloc (.cells cs t))) : wpList Tryz.prog ops Q (o :: rest) a w := by
  refine wpList_plain hg fun K' hK' => ?_
  unfold Oper.wp
  simp only [execOp, ho, Sem.run_bind, hrun, Result.andThen_ok]
  exact hK' _ _ h
end Go.Proofs.YtnadilfobmgebaaGreatDoor
namespace Go.Proofs.YtnadilfobmgebaaGreatDoor
open Go Go.RowKit
set_option maxRecDepth 100000 in
theorem tellsNumber : TellsI 78 := by
  refine ⟨fun _ _ => rfl, fun W a xs hx hl => ?_⟩
  obtain ⟨x0, x1, x2, x3, rfl⟩ := infoIn_len hl
  simp at hx
  subst hx
  go_enter Tryz.func78, Tryz.ntmps78
  go_wp2
  go_ret
  exact ⟨rfl, (Below.refl _ _).alloc (Nat.le_refl _) _⟩
end Go.Proofs.YtnadilfobmgebaaGreatDoor
namespace Go.Proofs.YtnadilfobmgebaaGreatDoor
open Go Go.RowKit
def bndT : List (Int × Int) := [(0, 1099511627776), (0, 1099511627776), (0, 4096), (1, 4096), (0, 1048576), (0, 1048576)]
end Go.Proofs.YtnadilfobmgebaaGreatDoor
namespace Go.Proofs.YtnadilfobmgebaaGreatDoor
open Go Go.RowKit
def FormT (w : World) (gs gt : Nat) : Prop := w.rangeAt gs 0 (ints [6, 6, 2, 2, 3, 3]) ∧ ∃ v, w.cell? ⟨gt, 0, none⟩ = some v ∧ Bnd w v bndT
theorem FormT.below {w w' : World} {gs gt : Nat} (h : FormT w gs gt) (hb : Below w.heap.size w w') : FormT w' gs gt := by
  obtain ⟨h1, v, h2, h3⟩ := h
  exact ⟨Below.range hb h1, v, (Upd.of_below (S := fun _ => False) hb).cellv h2 (fun h => h), h3.below hb⟩
end Go.Proofs.YtnadilfobmgebaaGreatDoor
namespace Go.Proofs.YtnadilfobmgebaaGreatDoor
open Go Go.RowKit
def certL (a b c d y1 z1 : Nat) : List (Nat × Nat) := [(a, 6), (b, 6), (c, 2), (d, 2), (y1, 3), (z1, 3)]
def certB (a b c d y1 z1 : Nat) : Bk := sectB 5 (certL a b c d y1 z1)
end Go.Proofs.YtnadilfobmgebaaGreatDoor
namespace Go.Proofs.YtnadilfobmgebaaGreatDoor
open Go Go.RowKit Go.ChangeShapes Go.WideShapes Go.ChangeAt
section
variable {H : Type} {enc : TypeId × Value → H} {P : Program}
theorem open_rd {α : Type} [Inhabited α] (f : α → List Value) (φ : α → Prop) {k : Nat} (hf : ∀ a, (f a).length = k) (hk : 0 < k) {W : World} {base : Nat} {t e : TypeId} {v : Value} {d : DataW H} {p : List MemPlace} (ht : P.underlying t = some (.slice e)) (hc : P.cellsOf e = k)
    (hel : ∀ (n : Nat) (cs : List Value) (x : DataW H × List MemPlace), DataW.trod enc P W 0 (fun _ => true) true n e cs = some x → ∃ a, cs = f a ∧ φ a)
    (hok : Value.okWide P W .any base t v) (h : DataW.Trod enc P W 0 (fun _ => true) true t v d p) :
    ∃ l : List α, Rd W k v l.length (l.flatMap f) ∧ ∀ a ∈ l, φ a := by
  obtain ⟨a0, len0, cap0, rfl⟩ := okWide_slice ht hok
  obtain ⟨fuel, hfu⟩ := h
  rcases Deep.open_slice ht hfu with ⟨hcs, hx⟩ | ⟨a, len, cap, m, n, D, Pl, hcs, _, hl, hm, hmm, hx, hcell⟩
  · simp only [Value.cells, List.cons.injEq, Value.slice.injEq, and_true] at hcs
    obtain ⟨rfl, rfl, rfl⟩ := hcs
    exact ⟨[], ⟨by simp, by simp [maxLen], none, 0, rfl, fun _ => rfl, fun b hb => by cases hb⟩, by simp⟩
  · simp only [Value.cells, List.cons.injEq, Value.slice.injEq, and_true] at hcs
    obtain ⟨rfl, rfl, rfl⟩ := hcs
    have hmc : m = cap0 := by simpa using hmm
    have hex : ∀ i, ∃ x : α, i < len0 → W.cells? 0 (a.add (i * k)) k = some (f x) ∧ φ x := by
      intro i
      by_cases hi : i < len0
      · obtain ⟨cs', h1, h2⟩ := hcell i (by omega)
        obtain ⟨x, rfl, hφ⟩ := hel _ _ _ h2
        rw [hc] at h1
        exact ⟨x, fun _ => ⟨h1, hφ⟩⟩
      · exact ⟨default, fun h => absurd h hi⟩
    have hch : ∃ g : Nat → α, ∀ i, i < len0 → W.cells? 0 (a.add (i * k)) k = some (f (g i)) ∧ φ (g i) := ⟨fun i => Classical.choose (hex i), fun i => Classical.choose_spec (hex i)⟩
    obtain ⟨g, hg⟩ := hch
    refine ⟨(List.range len0).map g, ⟨length_flat hf _, by simp; omega, some a, cap0, by simp, (fun h => by cases h), fun b hb j u hj => ?_⟩, ?_⟩
    · cases hb
      have hjl := (List.getElem?_eq_some_iff.1 hj).1
      rw [length_flat hf, List.length_map, List.length_range] at hjl
      have hi : j / k < len0 := (Nat.div_lt_iff_lt_mul hk).2 hjl
      have hjk : j % k < k := Nat.mod_lt _ hk
      have he : j / k * k + j % k = j := by rw [Nat.mul_comm]; exact Nat.div_add_mod j k
      rw [← he] at hj
      rw [flat_at hf _ (j / k) (j % k) hjk (g (j / k)) (by simp [hi])] at hj
      obtain ⟨_, _, h3⟩ := World.cells?_some (hg _ hi).1
      have h4 := h3 (j % k) hjk
      rw [hj] at h4
      have e2 : (a.add (j / k * k)).add (j % k) = a.add j := by
        have : ∀ (x y : Nat), (a.add x).add y = a.add (x + y) := by
          intro x y; unfold Addr.add; by_cases h1 : x = 0 <;> by_cases h2 : y = 0 <;> simp [h1, h2, Nat.add_assoc]
        rw [this, he]
      rw [← e2]; exact h4
    · intro x hx
      obtain ⟨i, hi, rfl⟩ := List.mem_map.1 hx
      exact (hg i (by simpa using hi)).2
end
end Go.Proofs.YtnadilfobmgebaaGreatDoor
namespace Go.Proofs.YtnadilfobmgebaaGreatDoor
open Go Go.RowKit
def szF : List Nat := [6, 6, 2, 2, 1, 3, 3, 3, 3, 3, 3, 3, 3]
def sectF (xs : List Int) : Bk := sectB 6 (numL szF xs)
end Go.Proofs.YtnadilfobmgebaaGreatDoor
namespace Go.Proofs.YtnadilfobmgebaaGreatDoor
open Go Go.RowKit
section
variable {S : Nat → Prop} {w w' : World} {li lc lf d k : Nat} {F : List Bk} {O : List (Nat × Bk)} {P : List Int}
theorem L17.beside (h : L17 S w li lc lf d k F O P) (hb : Below w.heap.size w w') : L17 (fun j => S j ∧ ¬ (w.heap.size ≤ j ∧ j < w'.heap.size)) w' li lc lf d k F O P :=
  have hu : Upd (fun _ => False) w w' := Upd.of_below hb
  { h.new hu with
    dv := (h.dv.out (fun j hj hs => ⟨hs, fun e => by omega⟩)).new hu
    nS := fun j hj => ⟨h.nS j (Nat.le_trans hb.size hj), fun e => by omega⟩
    iS := fun hs => h.iS hs.1
    cS := fun hs => h.cS hs.1
    fS := fun hs => h.fS hs.1
    nibS := fun hs => h.nibS hs.1 }
end
section
variable {S : Nat → Prop} {w : World} {li lc lf d k : Nat}
end
end Go.Proofs.YtnadilfobmgebaaGreatDoor
namespace Go.Proofs.YtnadilfobmgebaaGreatDoor
open Go Go.RowKit
theorem curB_own {F : List Bk} {O : List (Nat × Bk)} {s : Nat} {y : Bk} (hs : s < F.length) : curB F (O ++ [(s, y)]) s = y := by
  unfold curB
  have e : flushF F (O ++ [(s, y)]) = (flushF F O).set s y := by simp [flushF, List.foldl_append]
  rw [e, List.getD_eq_getElem?_getD, List.getElem?_set_self (by rw [flushF_len]; exact hs)]; rfl
theorem curB_nil (F : List Bk) (s : Nat) : curB F [] s = F.getD s zB := rfl
def getCd (K : Kind) (y : Bk) (j : Nat) : Int := if y = zB then 14 else if K.ok y = true ∧ K.nm y = (j : Int) then 0 else 12
theorem get_cur {K : Kind} {zs : List Value} {F : List Bk} {O : List (Nat × Bk)} {base k j : Nat} {y : Bk} (hj : j < k) (h : curB F O (base + j) = y) :
    logGetR K zs base k (j : Int) F O [] = (if getCd K y j = 0 then K.ds y else zs, getCd K y j, []) := by
  unfold logGetR getCd
  rw [if_neg (by omega), if_neg (by decide), Int.toNat_natCast, h]
  by_cases h1 : y = zB
  · rw [if_pos h1, if_pos h1, if_neg (by decide)]; rfl
  · rw [if_neg h1, if_neg h1]
    by_cases h2 : K.ok y = true ∧ K.nm y = (j : Int)
    · rw [if_pos h2, if_pos h2, if_pos rfl]; rfl
    · rw [if_neg h2, if_neg h2, if_neg (by decide)]; rfl
set_option maxRecDepth 100000 in
theorem run_eqIn_span (w : World) (d : Nat) (a b c e : Int) : (Op.equalIn (d + 1 + 1) 37 (.agg #[.int .i64 a, .int .i64 b]) (.agg #[.int .i64 c, .int .i64 e])).run Tryz.prog w = .ok (a == c && b == e) w := by
  have hu := Tryz.underlying37
  obtain ⟨fs, hfs⟩ : ∃ fs, Tryz.prog.underlying 37 = some (.struct fs) := ⟨_, hu⟩
  have hF : Tryz.prog.fieldsOf 37 = fs := by unfold Program.fieldsOf; rw [hfs]
  have hfe := hfs.symm.trans hu
  injection hfe with hfe
  injection hfe with hfe
  rw [run_equalIn_struct w (d + 1) _ _ _ (by rw [hF]; exact hfs) (by kernel_rfl), hF, hfe]
  by_cases hac : a = c
  · simp [Op.eqFields, go_sem, hac, Result.andThen]
    by_cases hbe : b = e <;> simp [hbe]
  · simp [Op.eqFields, go_sem, hac, Result.andThen]
set_option maxRecDepth 100000 in
theorem run_eqIn_intent (w : World) (d : Nat) (a0 a1 a2 a3 b0 b1 b2 b3 : Int) :
    (Op.equalIn (d + 1 + 1 + 1) 39 (.agg #[.int .i64 a0, .int .i64 a1, .int .i64 a2, .int .i64 a3]) (.agg #[.int .i64 b0, .int .i64 b1, .int .i64 b2, .int .i64 b3])).run Tryz.prog w =
      .ok (a0 == b0 && (a1 == b1 && (a2 == b2 && a3 == b3))) w := by
  have hu := Tryz.underlying39
  obtain ⟨fs, hfs⟩ : ∃ fs, Tryz.prog.underlying 39 = some (.struct fs) := ⟨_, hu⟩
  have hF : Tryz.prog.fieldsOf 39 = fs := by unfold Program.fieldsOf; rw [hfs]
  have hfe := hfs.symm.trans hu
  injection hfe with hfe
  injection hfe with hfe
  have h2 := run_eqIn_span w d a2 a3 b2 b3
  rw [run_equalIn_struct w (d + 1 + 1) _ _ _ (by rw [hF]; exact hfs) (by kernel_rfl), hF, hfe]
  by_cases h0 : a0 = b0
  · by_cases h1 : a1 = b1
    · simp [Op.eqFields, go_sem, h0, h1, h2, Result.andThen]
      by_cases h3 : a2 = b2 <;> by_cases h4 : a3 = b3 <;> simp [h3, h4]
    · simp [Op.eqFields, go_sem, h0, h1, Result.andThen]
  · simp [Op.eqFields, go_sem, h0, Result.andThen]
theorem run_neq_intent (w : World) (a0 a1 a2 a3 b0 b1 b2 b3 : Int) :
    (binOp .neq 39 (.agg #[.int .i64 a0, .int .i64 a1, .int .i64 a2, .int .i64 a3]) (.agg #[.int .i64 b0, .int .i64 b1, .int .i64 b2, .int .i64 b3])).run Tryz.prog w = .ok (.bool (!(a0 == b0 && (a1 == b1 && (a2 == b2 && a3 == b3))))) w := by
  simp only [binOp]
  simp [show Op.equal 39 (.agg #[.int .i64 a0, .int .i64 a1, .int .i64 a2, .int .i64 a3]) (.agg #[.int .i64 b0, .int .i64 b1, .int .i64 b2, .int .i64 b3]) = Op.equalIn (9997 + 1 + 1 + 1) 39 (.agg #[.int .i64 a0, .int .i64 a1, .int .i64 a2, .int .i64 a3]) (.agg #[.int .i64 b0, .int .i64 b1, .int .i64 b2, .int .i64 b3]) from rfl, run_eqIn_intent w 9997 a0 a1 a2 a3 b0 b1 b2 b3]
section
variable {S : Nat → Prop} {w : World} {li lc lf d k : Nat} {F : List Bk} {O : List (Nat × Bk)}
end
end Go.Proofs.YtnadilfobmgebaaGreatDoor
namespace Go.Proofs.YtnadilfobmgebaaGreatDoor
open Go Go.RowKit Go.Maps
theorem flatten_at {k : Nat} {j : Nat} : ∀ {cs : List (List Value)} {p : Nat} (_ : ∀ x ∈ cs, x.length = k) (hp : p < cs.length) (_ : j < k), cs.flatten[p * k + j]? = cs[p][j]?
  | [], p, _, hp, _ => by simp at hp
  | x :: cs, 0, h, _, hj => by
    rw [List.flatten_cons, Nat.zero_mul, Nat.zero_add, List.getElem?_append_left (by rw [h x (by simp)]; exact hj)]; rfl
  | x :: cs, p + 1, h, hp, hj => by
    have hx := h x (by simp)
    rw [List.flatten_cons, List.getElem?_append_right (by rw [hx, Nat.succ_mul]; omega), hx]
    have := flatten_at (cs := cs) (p := p) (fun y hy => h y (by simp [hy])) (by simpa using hp) hj
    simp only [List.getElem_cons_succ]
    rw [← this]
    congr 1
    rw [Nat.succ_mul]; omega
theorem Rd.thing_at {w : World} {k n : Nat} {v : Value} {cs : List (List Value)} (h : Rd w k v n cs.flatten) (hk : ∀ x ∈ cs, x.length = k) (h0 : 0 < k) {p : Nat} (hp : p < cs.length) :
    ∃ bl off cap, v = .slice (some ⟨bl, off, none⟩) n cap ∧ w.rangeAt bl (off + p * k) cs[p] := by
  have hn : 0 < n := by
    have := h.1
    rw [flatten_len hk] at this
    cases n with
    | zero =>
      rw [Nat.zero_mul] at this
      rcases Nat.mul_eq_zero.1 this with h1 | h1 <;> omega
    | succ n => omega
  obtain ⟨bl, off, cap, he, -, hc⟩ := h.at hn h0
  refine ⟨bl, off, cap, he, fun i u hu => ?_⟩
  have hi : i < k := by
    rw [← hk cs[p] (List.getElem_mem hp)]
    by_cases hl : i < cs[p].length
    · exact hl
    · rw [List.getElem?_eq_none (by omega)] at hu; cases hu
  have := hc (p * k + i) u (by rw [flatten_at hk hp hi]; exact hu)
  rw [← this]
  congr 2
  omega
end Go.Proofs.YtnadilfobmgebaaGreatDoor
namespace Go.Proofs.YtnadilfobmgebaaGreatDoor
open Go Go.RowKit
def ctB (j x : Nat) : Bk := certB j 0 x 1 0 0
def faI (j x : Nat) : List Int := [(j : Int), 0, (x : Int), 1, 1, 0, 0, 0, 0, 0, 0, 0, 0]
def faB (j x : Nat) : Bk := sectF (faI j x)
def W12 (F : List Bk) (ra rb rc : Nat → Bool) : Prop := F.length = 49 ∧ ∀ j, j < 12 → F.getD (11 + j) zB = (if ra j then thB j (j % 9) else zB) ∧ F.getD (23 + j) zB = (if rb j then ctB j (j % 9) else zB) ∧ F.getD (35 + j) zB = (if rc j then faB j (j % 9) else zB)
theorem getD_set {F : List Bk} {s t : Nat} {y : Bk} (hs : s < F.length) : (F.set s y).getD t zB = if t = s then y else F.getD t zB := by
  rw [List.getD_eq_getElem?_getD]
  by_cases e : t = s
  · subst e; rw [List.getElem?_set_self hs, if_pos rfl]; rfl
  · rw [List.getElem?_set_ne (fun h => e h.symm), if_neg e, List.getD_eq_getElem?_getD]
theorem W12.congr {F : List Bk} {ra rb rc ra' rb' rc' : Nat → Bool} (h : W12 F ra rb rc) (ha : ∀ j, ra' j = ra j) (hb : ∀ j, rb' j = rb j) (hc : ∀ j, rc' j = rc j) : W12 F ra' rb' rc' := by
  rw [funext ha, funext hb, funext hc]; exact h
section
variable {S : Nat → Prop} {w : World} {li lc lf d : Nat} {F : List Bk} {ra rb rc : Nat → Bool}
end
end Go.Proofs.YtnadilfobmgebaaGreatDoor
namespace Go.Proofs.YtnadilfobmgebaaGreatDoor
open Go Go.RowKit
theorem getD_set_any (F : List Bk) (s t : Nat) (y : Bk) : (F.set s y).getD t zB = F.getD t zB ∨ (t = s ∧ (F.set s y).getD t zB = y) := by
  by_cases hs : s < F.length
  · rw [getD_set hs]
    by_cases e : t = s
    · right; exact ⟨e, if_pos e⟩
    · left; exact if_neg e
  · left; rw [List.set_eq_of_length_le (by omega)]
theorem cur_mem (s : Nat) : ∀ (O : List (Nat × Bk)) (F : List Bk), curB F O s = F.getD s zB ∨ ∃ y, (s, y) ∈ O ∧ curB F O s = y
  | [], _ => .inl rfl
  | p :: O, F => by
    have e : curB F (p :: O) s = curB (F.set p.1 p.2) O s := rfl
    rw [e]
    rcases cur_mem s O (F.set p.1 p.2) with h | ⟨y, h1, h2⟩
    · rw [h]
      rcases getD_set_any F p.1 s p.2 with h | ⟨h3, h⟩
      · exact .inl h
      · exact .inr ⟨p.2, by rw [h3]; simp, h⟩
    · exact .inr ⟨y, by simp [h1], h2⟩
theorem crash_mem (s : Nat) (F : List Bk) (O : List (Nat × Bk)) (l : List Bool) : (crashF F O l).getD s zB = F.getD s zB ∨ ∃ y, (s, y) ∈ O ∧ (crashF F O l).getD s zB = y := by
  have h : ∀ (L : List (Bool × (Nat × Bk))) (F : List Bk), (∀ q ∈ L, q.2 ∈ O) → (L.foldl (fun F p => if p.1 = true then F.set p.2.1 p.2.2 else F) F).getD s zB = F.getD s zB ∨ ∃ y, (s, y) ∈ O ∧ (L.foldl (fun F p => if p.1 = true then F.set p.2.1 p.2.2 else F) F).getD s zB = y := by
    intro L
    induction L with
    | nil => intro F _; exact .inl rfl
    | cons q L ih =>
      intro F hL
      have hq := hL q (by simp)
      simp only [List.foldl_cons]
      rcases ih (if q.1 = true then F.set q.2.1 q.2.2 else F) (fun r hr => hL r (by simp [hr])) with h | h
      · rw [h]
        by_cases hb : q.1 = true
        · rw [if_pos hb]
          rcases getD_set_any F q.2.1 s q.2.2 with h | ⟨h3, h⟩
          · exact .inl h
          · exact .inr ⟨q.2.2, by rw [h3]; exact hq, h⟩
        · rw [if_neg hb]; exact .inl rfl
      · exact .inr h
  exact h _ F (fun q hq => (List.of_mem_zip hq).2)
structure LInv (k : Nat) (F : List Bk) (O : List (Nat × Bk)) (fm : Nat → Nat) (ev : Nat → Nat → Bool) : Prop where
  fl : F.length = 13 + 3 * k
  os : ∀ p ∈ O, ∃ j x, j < k ∧ x ≤ 8 ∧ p = (11 + j, thB j x) ∧ ev j x = true
  rows : ∀ j, j < k → F.getD (11 + j) zB = zB ∨ ∃ x, x ≤ 8 ∧ F.getD (11 + j) zB = thB j x ∧ ev j x = true
  firm : ∀ j, j < k → 0 < fm j → fm j ≤ 9 ∧ F.getD (11 + j) zB = thB j (fm j - 1) ∧ ∀ y, (11 + j, y) ∈ O → y = thB j (fm j - 1)
section
variable {k : Nat} {F : List Bk} {O : List (Nat × Bk)} {fm : Nat → Nat} {ev : Nat → Nat → Bool}
theorem LInv.own (h : LInv k F O fm ev) {j : Nat} {y : Bk} (hm : (11 + j, y) ∈ O) : ∃ x, x ≤ 8 ∧ y = thB j x ∧ ev j x = true := by
  obtain ⟨j', x, -, hx, he, hv⟩ := h.os _ hm
  have h1 := congrArg Prod.fst he
  have h2 := congrArg Prod.snd he
  simp at h1 h2
  subst h1
  exact ⟨x, hx, h2, hv⟩
theorem LInv.cur (h : LInv k F O fm ev) {j : Nat} (hj : j < k) : curB F O (11 + j) = zB ∨ ∃ x, x ≤ 8 ∧ curB F O (11 + j) = thB j x ∧ ev j x = true := by
  rcases cur_mem (11 + j) O F with h1 | ⟨y, h1, h2⟩
  · rw [h1]; exact h.rows j hj
  · rw [h2]; obtain ⟨x, hx, hy, hv⟩ := h.own h1; exact .inr ⟨x, hx, hy, hv⟩
theorem LInv.curFirm (h : LInv k F O fm ev) {j : Nat} (hj : j < k) (hf : 0 < fm j) : curB F O (11 + j) = thB j (fm j - 1) := by
  obtain ⟨-, h1, h2⟩ := h.firm j hj hf
  rcases cur_mem (11 + j) O F with h3 | ⟨y, h3, h4⟩
  · rw [h3, h1]
  · rw [h4, h2 y h3]
theorem LInv.flush (h : LInv k F O fm ev) : LInv k (flushF F O) [] fm ev where
  fl := by rw [flushF_len]; exact h.fl
  os := by simp
  rows := fun j hj => h.cur hj
  firm := fun j hj hf => ⟨(h.firm j hj hf).1, h.curFirm hj hf, by simp⟩
theorem LInv.crash (h : LInv k F O fm ev) (l : List Bool) : LInv k (crashF F O l) [] fm ev where
  fl := by rw [crashF_len]; exact h.fl
  os := by simp
  rows := fun j hj => by
    rcases crash_mem (11 + j) F O l with h1 | ⟨y, h1, h2⟩
    · rw [h1]; exact h.rows j hj
    · rw [h2]; obtain ⟨x, hx, hy, hv⟩ := h.own h1; exact .inr ⟨x, hx, hy, hv⟩
  firm := fun j hj hf => by
    obtain ⟨h0, h1, h2⟩ := h.firm j hj hf
    refine ⟨h0, ?_, by simp⟩
    rcases crash_mem (11 + j) F O l with h3 | ⟨y, h3, h4⟩
    · rw [h3, h1]
    · rw [h4, h2 y h3]
theorem LInv.mono (h : LInv k F O fm ev) {ev' : Nat → Nat → Bool} (he : ∀ j x, ev j x = true → ev' j x = true) : LInv k F O fm ev' :=
  { h with
    os := fun p hp => by obtain ⟨j, x, a, b, c, d⟩ := h.os p hp; exact ⟨j, x, a, b, c, he _ _ d⟩
    rows := fun j hj => (h.rows j hj).imp id (fun ⟨x, a, b, c⟩ => ⟨x, a, b, he _ _ c⟩) }
theorem LInv.wrote (h : LInv k F O fm ev) {id x : Nat} (hid : id < k) (hx : x ≤ 8) (he : ev id x = true) (hf : fm id = 0) : LInv k F (O ++ [(11 + id, thB id x)]) fm ev :=
  { h with
    os := fun p hp => by
      rcases List.mem_append.1 hp with hp | hp
      · exact h.os p hp
      · simp at hp; exact ⟨id, x, hid, hx, hp, he⟩
    firm := fun j hj hf' => by
      obtain ⟨h0, h1, h2⟩ := h.firm j hj hf'
      refine ⟨h0, h1, fun y hy => ?_⟩
      rcases List.mem_append.1 hy with hy | hy
      · exact h2 y hy
      · simp at hy
        have : j = id := by omega
        rw [this] at hf'; omega }
theorem LInv.said (h : LInv k F [] fm ev) {id x : Nat} (hx : x ≤ 8) (hr : F.getD (11 + id) zB = thB id x) : LInv k F [] (fun j => if j = id then x + 1 else fm j) ev :=
  { h with
    firm := fun j hj hf => by
      by_cases e : j = id
      · subst e
        simp only [if_true] at hf ⊢
        exact ⟨by omega, by simpa using hr, by simp⟩
      · rw [if_neg e] at hf ⊢
        exact h.firm j hj hf }
theorem LInv.put (h : LInv k F O fm ev) (hk : k ≤ 12) {P : List Int} (hP : ∀ p ∈ P, p = 0 ∨ p = 1) {id x : Nat} (hid : id < k) (hx : x ≤ 8) (he : ev id x = true) :
    LInv k (putR F O P (11 + id) (thB id x)).F (putR F O P (11 + id) (thB id x)).O (if (putR F O P (11 + id) (thB id x)).cd = 0 then fun j => if j = id then x + 1 else fm j else fm) ev ∧
      (putR F O P (11 + id) (thB id x)).O.length ≤ O.length + 1 ∧ (∀ p ∈ (putR F O P (11 + id) (thB id x)).P, p ∈ P) ∧ (putR F O P (11 + id) (thB id x)).P.length ≤ P.length := by
  have hft : ∀ (P : List Int), (∀ p ∈ P, p = 0 ∨ p = 1) → fate P = 0 ∨ fate P = 1 := fun P hP => by
    cases P with
    | nil => exact .inl rfl
    | cons a P => exact hP a (by simp)
  have htl : ∀ (P : List Int), ∀ p ∈ P.tail, p ∈ P := fun P p hp => List.mem_of_mem_tail hp
  have htn : ∀ (P : List Int), P.tail.length ≤ P.length := fun P => by rw [List.length_tail]; omega
  have hne := thB_ne (id := id) (x := x) (by omega) (by omega)
  have hP1 : ∀ p ∈ P.tail, p = 0 ∨ p = 1 := fun p hp => hP p (htl P p hp)
  have hP2 : ∀ p ∈ P.tail.tail, p = 0 ∨ p = 1 := fun p hp => hP1 p (htl P.tail p hp)
  unfold putR
  by_cases h1 : fate P = 1
  · rw [if_pos h1]
    exact ⟨by rw [if_neg (show ¬ (19 : Int) = 0 by decide)]; exact h, by simp, htl P, htn P⟩
  rw [if_neg h1]
  by_cases h2 : curB F O (11 + id) = thB id x
  · rw [if_pos h2]
    unfold flushR
    rcases hft _ hP1 with h3 | h3
    · rw [if_neg (by omega), if_pos h3]
      refine ⟨?_, by simp, fun p hp => htl P p (htl P.tail p hp), Nat.le_trans (htn P.tail) (htn P)⟩
      rw [if_pos rfl]
      exact h.flush.said hx h2
    · rw [if_pos h3]
      exact ⟨by rw [if_neg (show ¬ (21 : Int) = 0 by decide)]; exact h, by simp, fun p hp => htl P p (htl P.tail p hp), Nat.le_trans (htn P.tail) (htn P)⟩
  rw [if_neg h2]
  by_cases h3 : curB F O (11 + id) = zB
  · rw [if_neg (by simpa using h3)]
    have hf0 : fm id = 0 := by
      by_cases hf : 0 < fm id
      · have := h.curFirm hid hf
        rw [h3] at this
        exact absurd this.symm (thB_ne (by omega) (by have := (h.firm id hid hf).1; omega))
      · omega
    rcases hft _ hP1 with h4 | h4
    · have e4 : writeR F O P.tail (11 + id) (thB id x) = ⟨F, O ++ [(11 + id, thB id x)], P.tail.tail, 0⟩ := by unfold writeR; rw [if_neg (by omega), if_pos h4]
      rw [e4]
      simp only [ne_eq, not_true_eq_false, if_false]
      have hw := h.wrote hid hx he hf0
      unfold flushR
      rcases hft _ hP2 with h5 | h5
      · rw [if_neg (by omega), if_pos h5]
        refine ⟨?_, by simp, fun p hp => htl P p (htl P.tail p (htl P.tail.tail p hp)), Nat.le_trans (htn P.tail.tail) (Nat.le_trans (htn P.tail) (htn P))⟩
        rw [if_pos rfl]
        exact hw.flush.said hx (curB_own (by rw [h.fl]; omega))
      · rw [if_pos h5]
        exact ⟨by rw [if_neg (show ¬ (21 : Int) = 0 by decide)]; exact hw, by simp, fun p hp => htl P p (htl P.tail p (htl P.tail.tail p hp)), Nat.le_trans (htn P.tail.tail) (Nat.le_trans (htn P.tail) (htn P))⟩
    · have e4 : writeR F O P.tail (11 + id) (thB id x) = ⟨F, O, P.tail.tail, 20⟩ := by unfold writeR; rw [if_pos h4]
      rw [e4]
      simp only [ne_eq, show ¬ (20 : Int) = 0 by decide, not_false_eq_true, if_true]
      exact ⟨by rw [if_neg (fun e => e)]; exact h, by simp, fun p hp => htl P p (htl P.tail p hp), Nat.le_trans (htn P.tail) (htn P)⟩
  · rw [if_pos h3]
    exact ⟨by rw [if_neg (show ¬ (15 : Int) = 0 by decide)]; exact h, by simp, htl P, htn P⟩
end
theorem devL_LInv (k : Nat) : LInv k (devL k) [] (fun _ => 0) (fun _ _ => false) where
  fl := devL_len k
  os := by simp
  rows := fun j hj => .inl (by rw [List.getD_eq_getElem?_getD, devL_zero k _ (by omega) (by omega)]; rfl)
  firm := fun j _ h => absurd h (by decide)
end Go.Proofs.YtnadilfobmgebaaGreatDoor
namespace Go.Proofs.YtnadilfobmgebaaGreatDoor
open Go Go.RowKit
abbrev Op17 := Int × Int × Int
def op17C (o : Op17) : List Value := [.int .i64 o.1, .int .i64 o.2.1, .int .i64 o.2.2]
def op17OK (o : Op17) : Bool := decide (0 ≤ o.2.1) && decide (o.2.1 ≤ 8) && decide (0 ≤ o.2.2) && decide (o.2.2 ≤ 63) && decide (o.1 ≤ 1099511627776)
def rightB (l : List Op17) : Bool := l.all op17OK && decide (l.length ≤ 40)
theorem op17C_len (l : List Op17) : ∀ x ∈ l.map op17C, x.length = 3 := fun x hx => by
  obtain ⟨o, -, rfl⟩ := List.mem_map.1 hx; rfl
theorem op17_at {w : World} {v : Value} {l : List Op17} (h : Rd w 3 v l.length (l.map op17C).flatten) {p : Nat} (hp : p < l.length) :
    ∃ bl off cap, v = .slice (some ⟨bl, off, none⟩) l.length cap ∧ w.cell? ⟨bl, off + p * 3, none⟩ = some (.int .i64 l[p].1) ∧ w.cell? ⟨bl, off + p * 3 + 1, none⟩ = some (.int .i64 l[p].2.1) ∧ w.cell? ⟨bl, off + p * 3 + 2, none⟩ = some (.int .i64 l[p].2.2) := by
  obtain ⟨bl, off, cap, he, hr⟩ := h.thing_at (op17C_len l) (by decide) (p := p) (by simpa using hp)
  have e : (l.map op17C)[p]'(by simpa using hp) = op17C l[p] := by simp
  rw [e] at hr
  exact ⟨bl, off, cap, he, hr 0 _ rfl, hr 1 _ rfl, hr 2 _ rfl⟩
set_option maxRecDepth 100000 in
set_option maxHeartbeats 1000000 in
theorem right_any {w : World} {v : Value} {l : List Op17} (h : Rd w 3 v l.length (l.map op17C).flatten) : Calls Tryz.prog 29 #[v] w fun e w' => e = .returned (.bool (rightB l)) ∧ w' = w := by
  obtain ⟨ao, cap, rfl⟩ := h.nil_iff
  have hle := h.le
  unfold maxLen at hle
  have H := Lib.hid h
  clear h
  go_enter Tryz.func29, Tryz.ntmps29
  go_wp2
  go_loopw [3] (fun i wr => ∃ k : Nat, k ≤ l.length ∧ i = .int .i64 k ∧ wr = w ∧ ∀ j (hj : j < l.length), j < k → op17OK l[j] = true) (fun i _ => l.length - (intOf i).toNat)
  case atStart => exact ⟨0, Nat.zero_le _, rfl, rfl, fun j _ h => by omega⟩
  case round =>
    obtain ⟨k, hk, rfl, rfl, hall⟩ := hrel
    have HAll := Lib.hid hall
    clear hall
    by_cases hlt : k < l.length
    · obtain ⟨bl, off, cp, he, q0, q1, q2⟩ := op17_at H.out hlt
      cases he
      by_cases hok : op17OK l[k] = true
      · have HOk := Lib.hid hok
        unfold op17OK at hok
        simp only [Bool.and_eq_true, decide_eq_true_eq] at hok
        obtain ⟨⟨⟨⟨p1, p2⟩, p3⟩, p4⟩, p5⟩ := hok
        generalize hx : l[k].1 = x at *
        generalize hy : l[k].2.1 = y at *
        generalize hz : l[k].2.2 = z at *
        clear hx hy hz
        go_wp2
        go_roundw
        case rel =>
          refine ⟨k + 1, by omega, by go_num, trivial, fun j hj hjk => ?_⟩
          by_cases e : j = k
          · subst e; exact HOk.out
          · exact HAll.out j hj (by omega)
        case measure => simp [intOf]; omega
      · have hres : Hid (rightB l = false) := by
          show _ = _
          unfold rightB
          have : l.all op17OK = false := by
            rw [List.all_eq_false]
            exact ⟨l[k], List.getElem_mem hlt, hok⟩
          rw [this]; rfl
        have hc : l[k].2.1 < 0 ∨ (0 ≤ l[k].2.1 ∧ 8 < l[k].2.1) ∨ (0 ≤ l[k].2.1 ∧ l[k].2.1 ≤ 8 ∧ l[k].2.2 < 0) ∨ (0 ≤ l[k].2.1 ∧ l[k].2.1 ≤ 8 ∧ 0 ≤ l[k].2.2 ∧ 63 < l[k].2.2) ∨ (0 ≤ l[k].2.1 ∧ l[k].2.1 ≤ 8 ∧ 0 ≤ l[k].2.2 ∧ l[k].2.2 ≤ 63 ∧ 1099511627776 < l[k].1) := by
          unfold op17OK at hok
          simp only [Bool.and_eq_true, decide_eq_true_eq] at hok
          omega
        clear hok
        generalize hx : l[k].1 = x at *
        generalize hy : l[k].2.1 = y at *
        generalize hz : l[k].2.2 = z at *
        clear hx hy hz
        rcases hc with p1 | ⟨p1, p2⟩ | ⟨p1, p2, p3⟩ | ⟨p1, p2, p3, p4⟩ | ⟨p1, p2, p3, p4, p5⟩
        all_goals
          go_wp2
          go_ret
          rw [hres.out]
          exact ⟨rfl, rfl⟩
    · obtain rfl : k = l.length := by omega
      have hres : Hid (rightB l = decide ((l.length : Int) ≤ 40)) := by
        show _ = _
        unfold rightB
        have : l.all op17OK = true := by
          rw [List.all_eq_true]
          intro o ho
          obtain ⟨j, hj, rfl⟩ := List.mem_iff_getElem.1 ho
          exact HAll.out j hj hj
        rw [this, Bool.true_and]
        by_cases h40 : l.length ≤ 40
        · simp [h40]; omega
        · simp [h40]; omega
      go_wp2
      go_ret
      rw [hres.out]
      exact ⟨rfl, rfl⟩
end Go.Proofs.YtnadilfobmgebaaGreatDoor
namespace Go.Proofs.YtnadilfobmgebaaGreatDoor
open Go Go.RowKit
theorem alloc12 (w : World) : (Instr.alloc 64 true (.tuple #[])).run Tryz.prog w = .ok (.pointer (some ⟨w.heap.size, 0, none⟩)) (w.alloc (.cells (Array.replicate 12 (Value.int .i64 0)) 64)) := by
  kernel_rfl
theorem alloc108 (w : World) : (Instr.alloc 66 true (.tuple #[])).run Tryz.prog w = .ok (.pointer (some ⟨w.heap.size, 0, none⟩)) (w.alloc (.cells (Array.replicate 108 (Value.bool false)) 66)) := by
  kernel_rfl
def FmAt (w : World) (b : Nat) (fm : Nat → Nat) : Prop := ∃ cs, w.heap[b]? = some (.cells cs 64 (0, 0)) ∧ cs.size = 12 ∧ ∀ j, j < 12 → cs[j]? = some (.int .i64 (fm j : Int))
def EvAt (w : World) (b : Nat) (ev : Nat → Nat → Bool) : Prop := ∃ cs, w.heap[b]? = some (.cells cs 66 (0, 0)) ∧ cs.size = 108 ∧ ∀ j x, j < 12 → x < 9 → cs[j * 9 + x]? = some (.bool (ev j x))
section
variable {w w' : World} {b : Nat} {fm : Nat → Nat} {ev : Nat → Nat → Bool}
theorem FmAt.keep (h : FmAt w b fm) {S : Nat → Prop} (hu : Upd S w w') (hs : ¬ S b) : FmAt w' b fm := by
  obtain ⟨cs, h1, h2⟩ := h; exact ⟨cs, (hu.block b (lt_of_block h1) hs).trans h1, h2⟩
theorem EvAt.keep (h : EvAt w b ev) {S : Nat → Prop} (hu : Upd S w w') (hs : ¬ S b) : EvAt w' b ev := by
  obtain ⟨cs, h1, h2⟩ := h; exact ⟨cs, (hu.block b (lt_of_block h1) hs).trans h1, h2⟩
theorem FmAt.lt (h : FmAt w b fm) : b < w.heap.size := by obtain ⟨cs, h1, -⟩ := h; exact lt_of_block h1
theorem EvAt.lt (h : EvAt w b ev) : b < w.heap.size := by obtain ⟨cs, h1, -⟩ := h; exact lt_of_block h1
theorem FmAt.cell (h : FmAt w b fm) {j : Nat} (hj : j < 12) : w.cell? ⟨b, j, none⟩ = some (.int .i64 (fm j : Int)) ∧ w.frozen? ⟨b, j, none⟩ = false := by
  obtain ⟨cs, h1, -, h2⟩ := h; exact ⟨(cell_of_block h1 j).trans (h2 j hj), frozen_of_block h1 j⟩
theorem EvAt.cell (h : EvAt w b ev) {j x : Nat} (hj : j < 12) (hx : x < 9) : w.cell? ⟨b, j * 9 + x, none⟩ = some (.bool (ev j x)) ∧ w.frozen? ⟨b, j * 9 + x, none⟩ = false := by
  obtain ⟨cs, h1, -, h2⟩ := h; exact ⟨(cell_of_block h1 _).trans (h2 j x hj hx), frozen_of_block h1 _⟩
theorem FmAt.set (h : FmAt w b fm) {i v : Nat} (hi : i < 12) : FmAt (w.setCell ⟨b, i, none⟩ (.int .i64 (v : Int))) b (fun j => if j = i then v else fm j) := by
  obtain ⟨cs, h1, hs, h2⟩ := h
  refine ⟨_, heap_setCell_same h1 i _, by simpa using hs, fun j hj => ?_⟩
  show _ = some (Value.int .i64 ((if j = i then v else fm j : Nat) : Int))
  by_cases e : j = i
  · subst e
    rw [if_pos rfl, Array.getElem?_setIfInBounds_self_of_lt (by omega)]
  · rw [if_neg e, Array.getElem?_setIfInBounds_ne (fun h => e h.symm)]; exact h2 j hj
theorem EvAt.set (h : EvAt w b ev) {i y : Nat} (hi : i < 12) (hy : y < 9) : EvAt (w.setCell ⟨b, i * 9 + y, none⟩ (.bool true)) b (fun j x => ev j x || (j == i && x == y)) := by
  obtain ⟨cs, h1, hs, h2⟩ := h
  refine ⟨_, heap_setCell_same h1 _ _, by simpa using hs, fun j x hj hx => ?_⟩
  by_cases e : j = i ∧ x = y
  · obtain ⟨rfl, rfl⟩ := e
    rw [Array.getElem?_setIfInBounds_self_of_lt (by omega)]
    simp
  · rw [Array.getElem?_setIfInBounds_ne (by omega), h2 j x hj hx]
    have : (j == i && x == y) = false := by
      by_cases e1 : j = i
      · have : ¬ x = y := fun h => e ⟨e1, h⟩
        simp [this]
      · simp [e1]
    show some _ = some (Value.bool (ev j x || (j == i && x == y)))
    rw [this, Bool.or_false]
end
theorem FmAt.new {w : World} {b : Nat} (h : w.heap[b]? = some (.cells (Array.replicate 12 (Value.int .i64 0)) 64 (0, 0))) : FmAt w b (fun _ => 0) :=
  ⟨_, h, by simp, fun j hj => by rw [Array.getElem?_replicate, if_pos hj]; rfl⟩
theorem EvAt.new {w : World} {b : Nat} (h : w.heap[b]? = some (.cells (Array.replicate 108 (Value.bool false)) 66 (0, 0))) : EvAt w b (fun _ _ => false) :=
  ⟨_, h, by simp, fun j x hj hx => by rw [Array.getElem?_replicate, if_pos (by omega)]⟩
theorem lgetG {S : Nat → Prop} {w : World} {l b k fi : Nat} {F : List Bk} {O : List (Nat × Bk)} (hl : LogI w l b 11 k fi) (hd : Dv S w b F O []) (hn : ∀ j, w.heap.size ≤ j → S j) (hSl : ¬ S l) (hN : Nib w) (hSN : ¬ S 0) (hfi : TellsI fi) (hbn : 11 + k ≤ F.length)
    {j : Nat} {y : Bk} (hj : j < k) (hc : curB F O (11 + j) = y) : Calls Tryz.prog 18 #[ptr l, .int .i64 (j : Int)] w fun e w' =>
    ∃ y0 y1 y2 y3 cd : Int, e = .returned (.tuple #[.agg #[.int .i64 y0, .int .i64 y1, .int .i64 y2, .int .i64 y3], .int .i64 cd]) ∧ cd = getCd kindI y j ∧ (cd = 0 → kindI.ds y = intC y0 y1 y2 y3) ∧ (cd ≠ 0 → y0 = 0 ∧ y1 = 0 ∧ y2 = 0 ∧ y3 = 0) ∧ Dv S w' b F O [] ∧ Upd S w w' :=
  (getI hl hd hn hSl hN hSN hfi hbn (j : Int)).mono fun e w' ⟨he, hd, hu⟩ => by
    rw [get_cur hj hc] at he hd
    obtain ⟨n0, n1, n2, n3, hn⟩ : ∃ n0 n1 n2 n3, numsI y = [n0, n1, n2, n3] := ⟨_, _, _, _, rfl⟩
    have hds : kindI.ds y = intC n0 n1 n2 n3 := by show ints (natsI (numsI y)) = _; rw [hn]; rfl
    by_cases hz : getCd kindI y j = 0
    · rw [hz] at he ⊢
      simp only [if_true] at he
      rw [hds] at he
      exact ⟨n0, n1, n2, n3, 0, he, rfl, fun _ => hds, fun e => (e rfl).elim, hd, hu⟩
    · rw [if_neg hz] at he
      exact ⟨0, 0, 0, 0, _, he, rfl, fun e => (hz e).elim, fun _ => ⟨rfl, rfl, rfl, rfl⟩, hd, hu⟩
theorem lasts_cases {k : Nat} {F : List Bk} {fm : Nat → Nat} {ev : Nat → Nat → Bool} (h : LInv k F [] fm ev) (hk : k ≤ 12) {j : Nat} (hj : j < k) {y0 y1 y2 y3 cd : Int} (h1 : cd = getCd kindI (F.getD (11 + j) zB) j) (h2 : cd = 0 → kindI.ds (F.getD (11 + j) zB) = intC y0 y1 y2 y3) (h3 : cd ≠ 0 → y0 = 0 ∧ y1 = 0 ∧ y2 = 0 ∧ y3 = 0) :
    (∃ x : Nat, x ≤ 8 ∧ fm j = x + 1 ∧ cd = 0 ∧ y0 = j ∧ y1 = j ∧ y2 = x ∧ y3 = 1 ∧ ev j x = true) ∨ (fm j = 0 ∧ cd = 14 ∧ y0 = 0 ∧ y1 = 0 ∧ y2 = 0 ∧ y3 = 0) ∨ (∃ x : Nat, x ≤ 8 ∧ fm j = 0 ∧ cd = 0 ∧ y0 = j ∧ y1 = j ∧ y2 = x ∧ y3 = 1 ∧ ev j x = true) := by
  have hth : ∀ x : Nat, x ≤ 8 → F.getD (11 + j) zB = thB j x → cd = 0 ∧ y0 = j ∧ y1 = j ∧ y2 = x ∧ y3 = 1 := fun x hx hr => by
    rw [hr] at h1 h2
    obtain ⟨g1, g2⟩ := thB_get (id := j) (x := x) (by omega) (by omega)
    have hn : kindI.nm (thB j x) = j := by show (((numsI (thB j x)).getD 0 0 : Nat) : Int) = _; rw [g2]; rfl
    have hc : cd = 0 := by
      rw [h1]; unfold getCd
      rw [if_neg (thB_ne (by omega) (by omega)), if_pos ⟨g1, hn⟩]
    have hd := h2 hc
    have hd2 : kindI.ds (thB j x) = intC j j x 1 := by show ints (natsI (numsI (thB j x))) = _; rw [g2]; rfl
    rw [hd2] at hd
    simp at hd
    exact ⟨hc, hd.1.symm, hd.2.1.symm, hd.2.2.1.symm, hd.2.2.2.symm⟩
  by_cases hf : 0 < fm j
  · left
    obtain ⟨a1, a2, -⟩ := h.firm j hj hf
    have hev : ev j (fm j - 1) = true := by
      rcases h.rows j hj with hz | ⟨x, hx, hr, he⟩
      · rw [a2] at hz; exact absurd hz (thB_ne (by omega) (by omega))
      · rw [a2] at hr
        have := (thB_inj (by omega) (by omega) (by omega) (by omega) hr).2
        rw [this]; exact he
    obtain ⟨b0, b1, b2, b3, b4⟩ := hth (fm j - 1) (by omega) a2
    exact ⟨fm j - 1, by omega, by omega, b0, b1, b2, b3, b4, hev⟩
  · right
    rcases h.rows j hj with hz | ⟨x, hx, hr, he⟩
    · left
      rw [hz] at h1
      have hc : cd = 14 := by rw [h1]; exact if_pos rfl
      obtain ⟨b1, b2, b3, b4⟩ := h3 (by rw [hc]; decide)
      exact ⟨by omega, hc, b1, b2, b3, b4⟩
    · right
      obtain ⟨b0, b1, b2, b3, b4⟩ := hth x hx hr
      exact ⟨x, hx, by omega, b0, b1, b2, b3, b4, he⟩
end Go.Proofs.YtnadilfobmgebaaGreatDoor
namespace Go.Proofs.YtnadilfobmgebaaGreatDoor
open Go Go.RowKit
abbrev putF : Value := .func (.func 20) #[] #[]
abbrev getF : Value := .func (.func 16) #[] #[]
abbrev numF : Value := .func (.func 78) #[] #[]
def thereB (m : Nat) (base n : Int) : Bool := decide (0 ≤ base) && decide (1 ≤ n) && decide (n ≤ (m : Int)) && decide (base ≤ (m : Int) - n)
theorem newI_bad {S : Nat → Prop} {w : World} {b : Nat} {F : List Bk} {O : List (Nat × Bk)} {P : List Int} (h : Dv S w b F O P) (base n : Int) (hb : thereB F.length base n = false) (_hr1 : InR base) (hr2 : InR n) :
    Calls Tryz.prog 77 #[ptr b, .int .i64 base, .int .i64 n, putF, getF, numF] w fun e w' => e = .returned (.tuple #[.pointer none, .int .i64 10]) ∧ w = w' := by
  have hfl := h.good.fl
  have e1 := eql_fn 47 _ _ _ Tryz.underlying47
  have e2 := eql_fn 42 _ _ _ Tryz.underlying42
  have e3 := eql_fn 137 _ _ _ Tryz.underlying137
  have hc : base < 0 ∨ (0 ≤ base ∧ n < 1) ∨ (0 ≤ base ∧ 1 ≤ n ∧ (F.length : Int) < base) ∨ (0 ≤ base ∧ 1 ≤ n ∧ base ≤ (F.length : Int) ∧ (F.length : Int) - base < n) := by
    simp [thereB] at hb
    by_cases h1 : base < 0
    · exact .inl h1
    · by_cases h2 : n < 1
      · exact .inr (.inl ⟨by omega, h2⟩)
      · by_cases h3 : (F.length : Int) < base
        · exact .inr (.inr (.inl ⟨by omega, by omega, h3⟩))
        · exact .inr (.inr (.inr ⟨by omega, by omega, by omega, by by_cases h4 : n ≤ (F.length : Int); have := hb (by omega) (by omega) h4; omega; omega⟩))
  have H := Lib.hid h
  clear h hb
  unfold InR at hr2
  rcases hc with q1 | ⟨q0, q1⟩ | ⟨q0, q1, q2⟩ | ⟨q0, q1, q2, q3⟩
  · have p1 : decide (base < 0) = true := by simpa using q1
    go_enter Tryz.func77, Tryz.ntmps77
    go_wp2_with (first | (go_at_call 27; refine (dsize H.out).mono ?_; rintro e w' ⟨rfl, rfl⟩))
    go_ret2
    exact ⟨rfl, rfl⟩
  · have p1 : decide (base < 0) = false := by simp; omega
    have p2 : decide (n < 1) = true := by simpa using q1
    go_enter Tryz.func77, Tryz.ntmps77
    go_wp2_with (first | (go_at_call 27; refine (dsize H.out).mono ?_; rintro e w' ⟨rfl, rfl⟩))
    go_ret2
    exact ⟨rfl, rfl⟩
  · have p1 : decide (base < 0) = false := by simp; omega
    have p2 : decide (n < 1) = false := by simp; omega
    have p3 : decide ((F.length : Int) < base) = true := by simpa using q2
    go_enter Tryz.func77, Tryz.ntmps77
    go_wp2_with (first | (go_at_call 27; refine (dsize H.out).mono ?_; rintro e w' ⟨rfl, rfl⟩))
    go_ret2
    exact ⟨rfl, rfl⟩
  · have p1 : decide (base < 0) = false := by simp; omega
    have p2 : decide (n < 1) = false := by simp; omega
    have p3 : decide ((F.length : Int) < base) = false := by simp; omega
    have p4 : decide ((F.length : Int) - base < n) = true := by simpa using q3
    go_enter Tryz.func77, Tryz.ntmps77
    go_wp2_with (first | (go_at_call 27; refine (dsize H.out).mono ?_; rintro e w' ⟨rfl, rfl⟩))
    go_ret2
    exact ⟨rfl, rfl⟩
def IntsOut (w : World) (b : Nat) (m : Nat) (base n : Int) (e : Ending) (w' : World) : Prop := ∃ x : Option Addr, e = .returned (.tuple #[.pointer x, .int .i64 (if thereB m base n = true then 0 else 10)]) ∧ x.isSome = thereB m base n ∧ Below w.heap.size w w' ∧
  (thereB m base n = true → ∃ l, x = some ⟨l, 0, none⟩ ∧ LogI w' l b base.toNat n.toNat 78 ∧ w.heap.size ≤ l)
theorem lints_any {S : Nat → Prop} {w : World} {b : Nat} {F : List Bk} {O : List (Nat × Bk)} {P : List Int} (h : Dv S w b F O P) (base n : Int) (hr1 : InR base) (hr2 : InR n) :
    Calls Tryz.prog 32 #[ptr b, .int .i64 base, .int .i64 n] w (IntsOut w b F.length base n) := by
  by_cases hb : thereB F.length base n = true
  · have hb' := hb
    simp [thereB] at hb'
    obtain ⟨⟨⟨h1, h2⟩, h3⟩, h4⟩ := hb'
    have e1 : (base.toNat : Int) = base := by omega
    have e2 : (n.toNat : Int) = n := by omega
    have hN := newI_ok h base.toNat n.toNat (by omega) (by omega) 78
    rw [e1, e2] at hN
    have HN := Lib.hid hN
    have HB := Lib.hid hb
    clear h hb hN e1 e2 h1 h2 h3 h4
    go_enter Tryz.func32, Tryz.ntmps32
    go_wp2_with fail
    refine HN.out.mono ?_
    rintro e w' ⟨rfl, hl, hw⟩
    have HL := Lib.hid (And.intro hl hw)
    clear hl hw
    go_wp2
    go_ret2
    exact ⟨some ⟨w.heap.size, 0, none⟩, by rw [if_pos HB.out]; rfl, by rw [HB.out]; rfl, HL.out.2, fun _ => ⟨_, rfl, HL.out.1, Nat.le_refl _⟩⟩
  · have hb2 : thereB F.length base n = false := by simpa using hb
    have HN := Lib.hid (newI_bad h base n hb2 hr1 hr2)
    have HB := Lib.hid hb2
    clear h hb hb2
    go_enter Tryz.func32, Tryz.ntmps32
    go_wp2_with fail
    refine HN.out.mono ?_
    rintro e w' ⟨rfl, rfl⟩
    go_wp2
    go_ret2
    exact ⟨none, by rw [HB.out]; rfl, by rw [HB.out]; rfl, Below.refl _ _, fun h => by rw [HB.out] at h; cases h⟩
end Go.Proofs.YtnadilfobmgebaaGreatDoor
