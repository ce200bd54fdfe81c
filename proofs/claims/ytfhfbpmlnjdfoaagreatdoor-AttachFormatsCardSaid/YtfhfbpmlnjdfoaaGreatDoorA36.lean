/- attach.Attach of a cache without blocks. A device that was formatted: what stands on it. lavabolaw19.devices: two new devices. A cache: room, where the journal has it. A cache: fill. -/
import Derived.Test.YtfhfbpmlnjdfoaaGreatDoorA35
import Derived.Test.YtfhfbpmlnjdfoaaGreatDoorA11
import Derived.Test.YtfhfbpmlnjdfoaaGreatDoorA22
namespace Go.Proofs.YtfhfbpmlnjdfoaaGreatDoor
open Go Go.RowKit Go.Shelf Go.Lib
def AtOut (own : Nat → Nat) (w : World) (ssd back : Nat) (n : CaN) (a : CaS) (e : Ending) (w' : World) : Prop :=
  ∃ c p own' li lc lf, e = .returned (.tuple #[ptr c, .agg #[ptr li, ptr lc, ptr lf], .slice none 0 0, .int .i64 0]) ∧ CaAt own' w' c n p a ∧ p.ssd = ssd ∧ p.back = back ∧ Did own own' w w' ∧
    LogI w' li ssd (1 + 2 * n.pa + n.jo) n.lo 140 ∧ LogC w' lc ssd (1 + 2 * n.pa + n.jo + n.lo) n.lo 144 ∧ LogF w' lf ssd (1 + 2 * n.pa + n.jo + n.lo + n.lo) n.lo 148 ∧ own' li = 0 ∧ own' lc = 0 ∧ own' lf = 0
structure Emp (n : CaN) (F : List Bk) (O : List (Nat × Bk)) (wh sq : Nat) : Prop where
  ok : n.Ok
  fl : F.length = n.size
  su : okS (curB F O 0) = true
  ns : dsS (natsI (numsS (curB F O 0))) = n.C
  nw : nwS F O 1 n.pa 2 = (true, wh, sq, [])
  js : scanTo F O (1 + 2 * n.pa) n.jo n.jo = []
  wh1 : wh ≤ 1
  sq1 : sq + 1 < 1099511627776
  zs : ∀ j, j < n.lo + n.lo + n.lo → curB F O (1 + 2 * n.pa + n.jo + j) = zB
  o5 : O.length ≤ 50000
theorem lists_nil {L : List EI} (h : Lists (fun _ => none) L) : L = [] := by
  cases L with
  | nil => rfl
  | cons e L => have := (h.2 e).1 List.mem_cons_self; cases this
theorem en_emp {S : Nat → Prop} {w w' : World} {b : Nat} {F : List Bk} {O : List (Nat × Bk)} {n : CaN} {wh sq : Nat} {e : Ending} (h : EnOut S w b F O n.jo n.pa e w') (hE : Emp n F O wh sq) :
    ∃ ao cap, e = .returned (.tuple #[.int .i64 (wh : Int), .int .i64 (sq : Int), .slice ao 0 cap, .int .i64 0]) ∧ Dv S w' b F O [] ∧ Upd S w w' := by
  obtain ⟨v, L, wh', sq', c, rfl, hsl, -, hd, hu, h⟩ := h
  have hd' := hd.wide (T := S) (fun j h => h.1)
  rw [hE.nw, hE.js] at h
  rcases h with ⟨-, -, h⟩ | ⟨-, R, hp, -, r, hr, h⟩
  · cases h
  · have hR : R = [] := List.Perm.eq_nil hp
    subst hR
    have hd0 : r.d = [] := by rw [hr]; rfl
    have hg0 : r.g = sq := by rw [hr]; rfl
    rw [hd0] at h
    have hap : ∀ L0, Lists (apRs (apM (([] : List Ent).map Ent.toI)) (([] : List (List Nat)).map natsI)) L0 → L0 = [] := fun L0 h => lists_nil h
    rcases h with ⟨-, -, h | ⟨L0, h1, h2⟩⟩ | ⟨rfl, rfl, rfl, h, -⟩
    · exact absurd List.nodup_nil h
    · rw [hap L0 h1] at h2
      exact absurd List.nodup_nil h2
    · have hL := hap L h
      subst hL
      obtain ⟨ao, cap, rfl⟩ := hsl.rd.nil_iff
      exact ⟨ao, cap, by rw [hg0]; rfl, hd', hu⟩
theorem block_set3 {w : World} {p : Nat} {cs : Array Value} {vs : List Value} {t : TypeId} (h : w.heap[p]? = some (.cells cs t (0, 0))) (hl : cs.size = vs.length) : (w.setCells p 0 vs).heap[p]? = some (.cells vs.toArray t (0, 0)) := by
  obtain ⟨cur', h2, h3, h4⟩ := heap_setCells_same vs 0 w p _ t (0, 0) h
  rw [h2]
  have : cur' = vs.toArray := by
    apply Array.ext_getElem?
    intro k
    have e : vs.toArray[k]? = vs[k]? := by simp
    rw [h4 k, e, hl]
    by_cases hk : k < vs.length
    · rw [if_pos ⟨by omega, by omega, by omega⟩]; rfl
    · rw [if_neg (by omega), Array.getElem?_eq_none (by omega), List.getElem?_eq_none (by omega)]
  rw [this]
def attV (s8 q m : Nat) : Array Value := #[.func (.func 73) #[] #[ptr s8, ptr q, ptr (q + 1), ptr m, ptr (m + 1), ptr (m + 1 + 1), ptr (m + 1 + 1 + 1)], .func (.func 75) #[] #[ptr (m + 1 + 1 + 1), ptr (m + 1 + 1 + 1 + 1)],
  .func (.func 77) #[] #[ptr (m + 1 + 1 + 1 + 1), ptr (m + 1 + 1 + 1 + 1 + 1)], .func (.func 79) #[] #[ptr (m + 1 + 1 + 1)]]
def Bx (own : Nat → Nat) (w : World) (m : Nat) (c : Value) (l : List Value) : Prop :=
  (w.heap[m + 1 + 1 + 1]? = some (.cells #[c] 62 (0, 0)) ∧ own (m + 1 + 1 + 1) = 0) ∧ (w.heap[m + 1 + 1 + 1 + 1]? = some (.cells l.toArray 67 (0, 0)) ∧ own (m + 1 + 1 + 1 + 1) = 0) ∧
    (w.heap[m + 1 + 1 + 1 + 1 + 1]? = some (.cells #[.slice none 0 0] 68 (0, 0)) ∧ own (m + 1 + 1 + 1 + 1 + 1) = 0)
theorem Bx.did {own own' : Nat → Nat} {w w' : World} {m : Nat} {c : Value} {l : List Value} (h : Bx own w m c l) (d : Did own own' w w') : Bx own' w' m c l :=
  ⟨d.zero h.1.1 h.1.2, d.zero h.2.1.1 h.2.1.2, d.zero h.2.2.1 h.2.2.2⟩
def Lg3 (own : Nat → Nat) (w : World) (n : CaN) (d li lc lf : Nat) : Prop :=
  (LogI w li d (1 + 2 * n.pa + n.jo) n.lo 140 ∧ LogC w lc d (1 + 2 * n.pa + n.jo + n.lo) n.lo 144 ∧ LogF w lf d (1 + 2 * n.pa + n.jo + n.lo + n.lo) n.lo 148) ∧ own li = 0 ∧ own lc = 0 ∧ own lf = 0
theorem Lg3.did {own own' : Nat → Nat} {w w' : World} {n : CaN} {d li lc lf : Nat} (h : Lg3 own w n d li lc lf) (g : Did own own' w w') : Lg3 own' w' n d li lc lf :=
  ⟨⟨h.1.1.keep g.upd (fun hs => hs.1 h.2.1), h.1.2.1.keep g.upd (fun hs => hs.1 h.2.2.1), h.1.2.2.keep g.upd (fun hs => hs.1 h.2.2.2)⟩, (g.old _ h.1.1.lt).trans h.2.1, (g.old _ h.1.2.1.lt).trans h.2.2.1, (g.old _ h.1.2.2.lt).trans h.2.2.2⟩
theorem Lg3.aside {own : Nat → Nat} {w w' : World} {n : CaN} {d li lc lf b : Nat} (h : Lg3 own w n d li lc lf) (hu : Upd (fun j => j = b) w w') (h1 : li ≠ b) (h2 : lc ≠ b) (h3 : lf ≠ b) : Lg3 own w' n d li lc lf :=
  ⟨⟨h.1.1.keep hu h1, h.1.2.1.keep hu h2, h.1.2.2.keep hu h3⟩, h.2⟩
def attR (own : Nat → Nat) (w : World) (ssd back m : Nat) (n : CaN) (F : List Bk) (O : List (Nat × Bk)) (G : List Bk) (Q : List (Nat × Bk)) (a : CaS) (Fx : Nat → Option Obj) : Nat → World → Prop
  | 0 => fun W => ∃ own', Dvs own' W ssd back F O G Q [] ∧ Did own own' w W ∧ Kps own' W Fx ∧ Bx own' W m (.pointer none) [.pointer none, .pointer none, .pointer none]
  | 1 => fun W => ∃ own' c p, CaAt own' W c n p a ∧ (p.ssd = ssd ∧ p.back = back) ∧ Did own own' w W ∧ Kps own' W Fx ∧ Bx own' W m (ptr c) [.pointer none, .pointer none, .pointer none]
  | 2 => fun W => ∃ own' c p li lc lf, CaAt own' W c n p a ∧ (p.ssd = ssd ∧ p.back = back) ∧ Did own own' w W ∧ Kps own' W Fx ∧ Bx own' W m (ptr c) [ptr li, ptr lc, ptr lf] ∧ Lg3 own' W n ssd li lc lf
  | 3 => fun W => ∃ own' c p li lc lf, CaAt own' W c n p a ∧ (p.ssd = ssd ∧ p.back = back) ∧ Did own own' w W ∧ Kps own' W Fx ∧ Bx own' W m (ptr c) [ptr li, ptr lc, ptr lf] ∧ Lg3 own' W n ssd li lc lf
  | _ => fun W => ∃ own' c p li lc lf, CaAt own' W c n p (a.ckpt n).1 ∧ (p.ssd = ssd ∧ p.back = back) ∧ Did own own' w W ∧ Kps own' W Fx ∧ Bx own' W m (ptr c) [ptr li, ptr lc, ptr lf] ∧ Lg3 own' W n ssd li lc lf
set_option maxRecDepth 100000 in
set_option maxHeartbeats 1000000 in
theorem att_row {own own' : Nat → Nat} {w W : World} {ssd back g m s8 q : Nat} {F G : List Bk} {O Q : List (Nat × Bk)} {n : CaN} {wh sq : Nat} {Fx : Nat → Option Obj} {ao : Option Addr} {cap : Nat} (hE : Emp n F O wh sq) (hG : G.length = n.bl) (hm : w.heap.size ≤ m)
    (h0 : Dvs own' W ssd back F O G Q []) (hd : Did own own' w W) (hk : Kps own' W Fx) (hb : Bx own' W m (.pointer none) [.pointer none, .pointer none, .pointer none])
    (fg : Fx g = some (.cells (attV s8 q m) 71 (0, 0))) (f8 : Fx s8 = some (.cells n.C.toArray 40 (0, 0))) (fq : Fx q = some (.cells #[ptr ssd] 46 (0, 0))) (fq1 : Fx (q + 1) = some (.cells #[ptr back] 46 (0, 0)))
    (f10 : Fx m = some (.cells #[.int .i64 (wh : Int)] 3 (0, 0))) (f11 : Fx (m + 1) = some (.cells #[.int .i64 (sq : Int)] 3 (0, 0))) (f12 : Fx (m + 1 + 1) = some (.cells #[.slice ao 0 cap] 22 (0, 0)))
    (f13 : Fx (m + 1 + 1 + 1) = none) (f14 : Fx (m + 1 + 1 + 1 + 1) = none) (f15 : Fx (m + 1 + 1 + 1 + 1 + 1) = none) :
    Calls Tryz.prog 61 #[.slice (some ⟨g, 0, none⟩) 4 4] W (RowOut (fun _ _ => False) (attR own w ssd back m n F O G Q (caS0 n wh (sq + 1) F O [] G Q []) Fx 4)) := by
  have hwh := hE.wh1
  refine arow (g := g) (n := 4) (by omega)
    (fun k => [73, 75, 77, 79].getD k 0) (fun _ => #[])
    (fun k => [#[ptr s8, ptr q, ptr (q + 1), ptr m, ptr (m + 1), ptr (m + 1 + 1), ptr (m + 1 + 1 + 1)], #[ptr (m + 1 + 1 + 1), ptr (m + 1 + 1 + 1 + 1)], #[ptr (m + 1 + 1 + 1 + 1), ptr (m + 1 + 1 + 1 + 1 + 1)], #[ptr (m + 1 + 1 + 1)]].getD k #[])
    (attR own w ssd back m n F O G Q (caS0 n wh (sq + 1) F O [] G Q []) Fx) (fun _ _ => False) ?_ ?_ ?_ ⟨own', h0, hd, hk, hb⟩
  · intro k hk W hW
    have hK : ∃ own', Kps own' W Fx := by
      rcases (show k = 0 ∨ k = 1 ∨ k = 2 ∨ k = 3 by omega) with rfl | rfl | rfl | rfl
      · obtain ⟨o, -, -, h, -⟩ := hW; exact ⟨o, h⟩
      · obtain ⟨o, c, p, -, -, -, h, -⟩ := hW; exact ⟨o, h⟩
      · obtain ⟨o, c, p, -, -, -, -, -, -, h, -⟩ := hW; exact ⟨o, h⟩
      · obtain ⟨o, c, p, -, -, -, -, -, -, h, -⟩ := hW; exact ⟨o, h⟩
    obtain ⟨o, h⟩ := hK
    rw [cell_of_block (h _ _ fg).1]
    rcases (show k = 0 ∨ k = 1 ∨ k = 2 ∨ k = 3 by omega) with rfl | rfl | rfl | rfl <;> rfl
  · intro k hk args W
    rcases (show k = 0 ∨ k = 1 ∨ k = 2 ∨ k = 3 by omega) with rfl | rfl | rfl | rfl <;> rfl
  · intro k hk W hW
    have np : ∀ (x : Option Addr) (k : IntKind) (y : Int), (#[Value.pointer x] : Array Value)[0]? ≠ some (.int k y) := fun x k y h => by simp at h
    rcases (show k = 0 ∨ k = 1 ∨ k = 2 ∨ k = 3 by omega) with rfl | rfl | rfl | rfl
    · obtain ⟨o, hD, hd, hk, hb⟩ := hW
      have hnew := cnewL hD.ssd hD.back hD.far hD.nib hD.tur hD.on hD.ot hE.ok hE.fl hG wh (sq + 1) hwh hE.sq1 ao 0 cap (caS0 n wh (sq + 1) F O [] G Q []) (fun _ _ _ _ _ h => load_emp h ao cap)
      have h2 := att2 (own := o) (w := W) (n := n) wh sq hnew (by have := hE.sq1; omega) (range_of_block (hk _ _ f8).1) (cell_of_block (hk _ _ fq).1 0) (cell_of_block (hk _ _ fq1).1 0) (cell_of_block (hk _ _ f10).1 0) (cell_of_block (hk _ _ f11).1 0) (cell_of_block (hk _ _ f12).1 0) hb.1.1 hb.1.2
      refine h2.mono fun e W' ⟨he, c, p, o2, w2, hca, hp1, hp2, d2, hw⟩ => ⟨0, he, fun _ => ?_, fun h => absurd rfl h⟩
      subst hw
      have b2 := hb.did d2
      have hu := upd_setCell w2 (m + 1 + 1 + 1) 0 (ptr c)
      refine ⟨o2, c, p, hca.nobody hu (box_ne hca.nib hca.tur b2.1.1 b2.1.2 (np _)), ⟨hp1, hp2⟩, (hd.trans d2).mine hu (by omega), (hk.did d2).aside hu (fun j e => by subst e; exact f13), ⟨heap_setCell0 b2.1.1, b2.1.2⟩, ⟨(hu.block _ (lt_of_block b2.2.1.1) (by omega)).trans b2.2.1.1, b2.2.1.2⟩, ⟨(hu.block _ (lt_of_block b2.2.2.1) (by omega)).trans b2.2.2.1, b2.2.2.2⟩⟩
    · obtain ⟨o, c, p, hca, hp, hd, hk, hb⟩ := hW
      have h3 := att3 hca (cell_of_block hb.1.1 0) hb.2.1.1
      refine h3.mono fun e W' ⟨he, li, lc, lf, w2, hi, hc, hf, hz, hu2, hw⟩ => ⟨0, he, fun _ => ?_, fun h => absurd rfl h⟩
      subst hw
      rw [hp.1] at hi hc hf
      have d2 := hca.didNew hu2
      have b2 := hb.did d2
      have hca2 := hca.new hu2
      have hu := upd_row w2 (m + 1 + 1 + 1 + 1) 0 [ptr li, ptr lc, ptr lf]
      have lb := lt_of_block hb.2.1.1
      have hL : Lg3 o w2 n ssd li lc lf := ⟨⟨hi, hc, hf⟩, hca.far _ hz.1, hca.far _ hz.2.1, hca.far _ hz.2.2⟩
      refine ⟨o, c, p, li, lc, lf, hca2.nobody hu (box_ne hca2.nib hca2.tur b2.2.1.1 b2.2.1.2 (fun k y h => by simp at h)), hp, (hd.trans d2).mine hu (by omega), (hk.did d2).aside hu (fun j e => by subst e; exact f14), ⟨⟨(hu.block _ (lt_of_block b2.1.1) (by omega)).trans b2.1.1, b2.1.2⟩, ⟨block_set3 b2.2.1.1 rfl, b2.2.1.2⟩, ⟨(hu.block _ (lt_of_block b2.2.2.1) (by omega)).trans b2.2.2.1, b2.2.2.2⟩⟩, hL.aside hu (by omega) (by omega) (by omega)⟩
    · obtain ⟨o, c, p, li, lc, lf, hca, hp, hd, hk, hb, hL⟩ := hW
      have hlz : LgsZ (fun j => o j = 2 ∨ W.heap.size ≤ j) W li lc lf ssd (1 + 2 * n.pa + n.jo) n.lo F O := {
        i := hL.1.1
        c := hL.1.2.1
        f := hL.1.2.2
        dv := by have := hca.open2; rw [hp.1] at this; exact this
        fl := by rw [hE.fl]; unfold CaN.size; omega
        nS := fun j hj => .inr hj
        iS := fun h => by have := hL.1.1.lt; rcases h with h | h; rw [hL.2.1] at h; cases h; omega
        cS := fun h => by have := hL.1.2.1.lt; rcases h with h | h; rw [hL.2.2.1] at h; cases h; omega
        fS := fun h => by have := hL.1.2.2.lt; rcases h with h | h; rw [hL.2.2.2] at h; cases h; omega
        nib := hca.nib
        nibS := fun h => by have := hca.nib.lt; rcases h with h | h; rw [hca.on] at h; cases h; omega
        zs := fun j hj => hE.zs j hj }
      have h4 := att4 hlz hb.2.1.1 hb.2.2.1 (fun h => by have := lt_of_block hb.2.2.1; rcases h with h | h; rw [hb.2.2.2] at h; cases h; omega)
      refine h4.mono fun e W' ⟨he, w2, hdv, hu2, hw⟩ => ⟨0, he, fun _ => ?_, fun h => absurd rfl h⟩
      subst hw
      have hca2 := hca.turn2 hu2 (by rw [hp.1]; exact hdv) rfl
      have d2 := hca.did2 hu2
      have b2 := hb.did d2
      have L2 := hL.did d2
      have hu := upd_setCell w2 (m + 1 + 1 + 1 + 1 + 1) 0 (.slice none 0 0)
      have hbn := box_ne hca2.nib hca2.tur b2.2.2.1 b2.2.2.2 (fun k y h => by simp at h)
      have ln : ∀ {l : Nat} {v : Array Value} {t : TypeId}, w2.heap[l]? = some (.cells v t (0, 0)) → (∃ x, v[0]? = some (.pointer x)) → l ≠ m + 1 + 1 + 1 + 1 + 1 := by
        rintro l v t h ⟨x, hx⟩ e
        rw [e, b2.2.2.1] at h
        cases h
        simp at hx
      refine ⟨_, c, p, li, lc, lf, hca2.nobody hu hbn, hp, (hd.trans d2).mine hu (by omega), (hk.did d2).aside hu (fun j e => by subst e; exact f15), ⟨⟨(hu.block _ (lt_of_block b2.1.1) (by omega)).trans b2.1.1, b2.1.2⟩, ⟨(hu.block _ (lt_of_block b2.2.1.1) (by omega)).trans b2.2.1.1, b2.2.1.2⟩, ⟨heap_setCell0 b2.2.2.1, b2.2.2.2⟩⟩, L2.aside hu (ln L2.1.1.str ⟨_, rfl⟩) (ln L2.1.2.1.str ⟨_, rfl⟩) (ln L2.1.2.2.str ⟨_, rfl⟩)⟩
    · obtain ⟨o, c, p, li, lc, lf, hca, hp, hd, hk, hb, hL⟩ := hW
      have hck := ca_ckpt hca (fun k v h => by cases h) (by exact hE.o5)
      have e0 : (CaS.ckpt n (caS0 n wh (sq + 1) F O [] G Q [])).2 = 0 := by rw [ckpt_new rfl rfl rfl]
      rw [e0] at hck
      have h5 := att5 hck (cell_of_block hb.1.1 0)
      refine h5.mono fun e W' ⟨he, o2, hca2, d2⟩ => ⟨0, he, fun _ => ?_, fun h => absurd rfl h⟩
      exact ⟨o2, c, p, li, lc, lf, hca2, hp, hd.trans d2, hk.did d2, hb.did d2, hL.did d2⟩
theorem seven_new (w : World) (a b c d e f g : Obj) (w' : World) (hw : w' = ((((((w.alloc a).alloc b).alloc c).alloc d).alloc e).alloc f).alloc g) :
    w'.heap[w.heap.size]? = some a ∧ w'.heap[w.heap.size + 1]? = some b ∧ w'.heap[w.heap.size + 1 + 1]? = some c ∧ w'.heap[w.heap.size + 1 + 1 + 1]? = some d ∧ w'.heap[w.heap.size + 1 + 1 + 1 + 1]? = some e ∧
      w'.heap[w.heap.size + 1 + 1 + 1 + 1 + 1]? = some f ∧ w'.heap[w.heap.size + 1 + 1 + 1 + 1 + 1 + 1]? = some g ∧ Upd (fun _ => False) w w' := by
  subst hw
  have al : ∀ {w : World} {o : Obj} {i : Nat} {x : Obj}, w.heap[i]? = some x → (w.alloc o).heap[i]? = some x := fun {w o i x} h => (Below.heap_alloc _ _ _ (lt_of_block h)).trans h
  exact ⟨al (al (al (al (al (al (heap_alloc_last _ _ rfl)))))), al (al (al (al (al (heap_alloc_last _ _ (by simp)))))), al (al (al (al (heap_alloc_last _ _ (by simp))))), al (al (al (heap_alloc_last _ _ (by simp)))), al (al (heap_alloc_last _ _ (by simp))), al (heap_alloc_last _ _ (by simp)), heap_alloc_last _ _ (by simp), (((((((Upd.refl _ w).alloc _).alloc _).alloc _).alloc _).alloc _).alloc _).alloc _⟩
theorem results_x4 {P : Program} {fn : Func} {p0 p r s : Tmp} {ty : TypeId} (h : fn.results = #[.tmp p0, .cell p ty, .tmp r, .tmp s]) (tmps : Array Value) (w : World) (b o : Nat) (cs : List Value) (d : TypeDesc)
    (hp : tmps.getD p undef = .pointer (some ⟨b, o, none⟩)) (hc : w.rangeAt b o cs) (hu : P.underlying ty = some d) (hd : d.isRow = true) (hi : (P.info? ty).map (·.size) = some cs.length) :
    (results fn tmps).run P w = .ok (.tuple #[tmps.getD p0 undef, .agg cs.toArray, tmps.getD r undef, tmps.getD s undef]) w := by
  have hp' : tmps[p]?.getD undef = .pointer (some ⟨b, o, none⟩) := by simpa using hp
  simp [results, h, hp', asAddr, run_loadVar_mid w b o ty cs d hc hu hd hi, Result.andThen]
set_option maxRecDepth 100000 in
set_option maxHeartbeats 4000000 in
theorem aattach_emp {own : Nat → Nat} {w : World} {ssd back : Nat} {F G : List Bk} {O Q : List (Nat × Bk)} {n : CaN} {wh sq : Nat} (hD : Dvs own w ssd back F O G Q []) (hE : Emp n F O wh sq) (hG : G.length = n.bl) :
    Calls Tryz.prog 23 #[ptr ssd, ptr back] w (AtOut own w ssd back n ((caS0 n wh (sq + 1) F O [] G Q []).ckpt n).1) := by
  obtain ⟨U, hU⟩ : ∃ U, U = n.C := ⟨_, rfl⟩
  obtain ⟨w1, hw1⟩ : ∃ w1, w1 = ((w.alloc (.cells #[ptr ssd] 46)).alloc (.cells #[ptr back] 46)).alloc (.cells #[.pointer none, .pointer none, .pointer none] 67) := ⟨_, rfl⟩
  have hu1 : Upd (fun _ => False) w w1 := by rw [hw1]; exact (((Upd.refl _ w).alloc _).alloc _).alloc _
  have z1 : w1.heap.size = w.heap.size + 3 := by rw [hw1]; simp
  obtain ⟨ga1, gb1, gc1, -, -⟩ := three_new w (.cells #[ptr ssd] 46) (.cells #[ptr back] 46) (.cells #[.pointer none, .pointer none, .pointer none] 67)
  rw [← hw1] at ga1 gb1 gc1
  have D1 := hD.new hu1
  have hsup := asuper D1.open2 (fun j hj => .inr hj) D1.back (fun j h3 h2 => by rcases h2 with h2 | h2; rw [h3] at h2; exact absurd h2 (by decide); rw [D1.far j h2] at h3; exact absurd h3 (by decide)) D1.nib D1.on2 (by rw [hE.fl]; have := hE.ok.s1; unfold CaN.size; omega) n hE.ok (fun _ => hE.ns)
  have hR : supR n F G (curB F O 0) = (n.C, 0) := by unfold supR; rw [if_pos hE.su, if_pos ⟨hE.fl, hG⟩]
  rw [hR] at hsup
  have HS : Hid (Calls Tryz.prog 21 #[ptr ssd, ptr back] w1 (fun e w' => e = .returned (.tuple #[.agg n.C.toArray, .int .i64 0]) ∧ Dv (fun j => own j = 2 ∨ w1.heap.size ≤ j) w' ssd F O [] ∧ Upd (fun j => own j = 2 ∨ w1.heap.size ≤ j) w1 w')) := hsup
  have H := Lib.hid (And.intro hD (And.intro hE (And.intro hG hU)))
  have H1 := Lib.hid (And.intro hw1 (And.intro hu1 (And.intro z1 (And.intro ga1 (And.intro gb1 (And.intro gc1 D1))))))
  have ca := cell_of_block ga1 0
  have cb := cell_of_block gb1 0
  have hUl : U.length = 7 := by rw [hU]; rfl
  have hU1 : ∀ v ∈ U, v.oneCell' = true := by rw [hU]; exact n.C_one
  have hsU : (Tryz.prog.info? 40).map (·.size) = some U.length := by rw [hU]; exact infoSup
  rw [← hU] at HS
  clear hD hE hG hU hw1 hu1 z1 ga1 gb1 gc1 D1 hsup hR
  go_enter Tryz.func23, Tryz.ntmps23
  go_wp2_with fail
  rw [← H1.out.1]
  refine HS.out.mono ?_
  rintro e w2 ⟨rfl, hd2, hu2⟩
  have D2 := H1.out.2.2.2.2.2.2.turn2 hu2 hd2
  have did2 := H1.out.2.2.2.2.2.2.did2 hu2
  have hu2s : Hid (w1.heap.size ≤ w2.heap.size) := hu2.size
  obtain ⟨own2, hown2⟩ : ∃ own2, own2 = grow own 2 w1.heap.size w2.heap.size := ⟨_, rfl⟩
  rw [← hown2] at D2 did2
  obtain ⟨w3, hw3⟩ : ∃ w3, w3 = w2.alloc (.cells U.toArray 40) := ⟨_, rfl⟩
  have hu3 : Upd (fun _ => False) w2 w3 := by rw [hw3]; exact (Upd.refl _ w2).alloc _
  have D3 := D2.new hu3
  have did3 := did2.trans (D2.didNew hu3)
  have o0 : ∀ i, w.heap.size ≤ i → own i = 0 := H.out.1.far
  have ga3 := did3.zero H1.out.2.2.2.1 (o0 _ (Nat.le_refl _))
  have gb3 := did3.zero H1.out.2.2.2.2.1 (o0 _ (by omega))
  have gc3 := did3.zero H1.out.2.2.2.2.2.1 (o0 _ (by omega))
  have g83 : w3.heap[w2.heap.size]? = some (.cells U.toArray 40 (0, 0)) := by rw [hw3]; exact heap_alloc_last w2 _ rfl
  have o83 : own2 w2.heap.size = 0 := D2.far _ (Nat.le_refl _)
  have r83 := range_of_block g83
  have ca3 := cell_of_block ga3.1 0
  have hEn : Hid (Calls Tryz.prog 22 #[.agg U.toArray, ptr ssd] w3 (EnOut (fun j => own2 j = 2 ∨ w3.heap.size ≤ j) w3 ssd F O n.jo n.pa)) := by
    show Calls _ _ _ _ _
    rw [H.out.2.2.2]
    obtain ⟨b1, b2, s1, s2, j1, j2, l1, l2, a1, a2, p1, p2, z⟩ := H.out.2.1.ok
    exact aentries D3.open2 (fun j hj => .inr hj) D3.nib D3.on2 n.id n.bl n.sl n.jo n.pa n.lo n.ba b1 b2 s1 s2 j1 j2 l1 l2 a1 a2 p1 p2 z H.out.2.1.fl
  have H3 := Lib.hid (And.intro hw3 (And.intro D3 (And.intro did3 (And.intro ga3 (And.intro gb3 (And.intro gc3 (And.intro g83 o83)))))))
  rw [hw3] at r83 ca3
  clear hd2 hu2 D2 did2 hown2 hu3 D3 did3 ga3 gb3 gc3 g83 o83 hw3 o0 HS ca cb
  go_wp2_with (first
    | (refine wpList_store_new rfl _ _ _ rfl _ _ U rfl rfl (by rw [hUl]; rfl) hsU hU1 ?_)
    | (refine wpList_load_mid rfl _ _ rfl _ _ rfl _ _ r83 Tryz.underlying40 rfl hsU ?_)
    | fail)
  rw [← H3.out.1]
  refine hEn.out.mono ?_
  intro e w4 he
  obtain ⟨ao, cap, rfl, hd4, hu4⟩ := en_emp he H.out.2.1
  have D4 := H3.out.2.1.turn2 hu4 hd4
  have did4 := H3.out.2.2.1.trans (H3.out.2.1.did2 hu4)
  obtain ⟨own4, hown4⟩ : ∃ own4, own4 = grow own2 2 w3.heap.size w4.heap.size := ⟨_, rfl⟩
  rw [← hown4] at D4 did4
  have did34 : Did own2 own4 w3 w4 := by rw [hown4]; exact H3.out.2.1.did2 hu4
  have HD4 := Lib.hid (And.intro D4 (And.intro did4 did34))
  clear he hd4 hu4 D4 did4 did34 hown4 r83 ca3
  have hmf : ∀ (fn : Fn) (first cap : Array Value) (w : World), (Instr.makeFunc fn first cap).run Tryz.prog w = .ok (.func fn first cap) w := fun _ _ _ _ => rfl
  go_wp2_with fail
  refine (adel_emp ao cap _ _).mono ?_
  rintro e wx ⟨rfl, hwx⟩
  rw [hwx]
  clear hwx
  go_wp2_with fail
  obtain ⟨m, hm⟩ : ∃ m, m = w4.heap.size := ⟨_, rfl⟩
  obtain ⟨q, hq⟩ : ∃ q, q = w.heap.size := ⟨_, rfl⟩
  obtain ⟨s8, hs8⟩ : ∃ s8, s8 = w2.heap.size := ⟨_, rfl⟩
  rw [← hm, ← hq, ← hs8]
  obtain ⟨w5, hw5⟩ : ∃ w5, w5 = ((((((w4.alloc (.cells #[.int .i64 (wh : Int)] 3)).alloc (.cells #[.int .i64 (sq : Int)] 3)).alloc (.cells #[.slice ao 0 cap] 22)).alloc (.cells #[.pointer none] 62)).alloc
    (.cells #[.pointer none, .pointer none, .pointer none] 67)).alloc (.cells #[.slice none 0 0] 68)).alloc (.cells (attV s8 q m) 71) := ⟨_, rfl⟩
  change Calls _ _ _ (((((((w4.alloc (.cells #[.int .i64 (wh : Int)] 3)).alloc (.cells #[.int .i64 (sq : Int)] 3)).alloc (.cells #[.slice ao 0 cap] 22)).alloc (.cells #[.pointer none] 62)).alloc
    (.cells #[.pointer none, .pointer none, .pointer none] 67)).alloc (.cells #[.slice none 0 0] 68)).alloc (.cells (attV s8 q m) 71)) _
  rw [← hw5]
  have HR : Hid (Calls Tryz.prog 61 #[.slice (some ⟨m + 1 + 1 + 1 + 1 + 1 + 1, 0, none⟩) 4 4] w5 (RowOut (fun _ _ => False) (fun W => ∃ own' c p li lc lf, CaAt own' W c n p ((caS0 n wh (sq + 1) F O [] G Q []).ckpt n).1 ∧ (p.ssd = ssd ∧ p.back = back) ∧ Did own own' w W ∧ (W.heap[q + 1 + 1]? = some (.cells #[.pointer none, .pointer none, .pointer none] 67 (0, 0)) ∧ own' (q + 1 + 1) = 0) ∧ Bx own' W m (ptr c) [ptr li, ptr lc, ptr lf] ∧ Lg3 own' W n ssd li lc lf))) := by
    show Calls _ _ _ _ _
    obtain ⟨-, hE, hG, hU⟩ := H.out
    obtain ⟨-, hu1, z1, -, -, -, D1⟩ := H1.out
    obtain ⟨-, D3, did3, ga3, gb3, gc3, g83, o83⟩ := H3.out
    obtain ⟨D4, did4, did34⟩ := HD4.out
    obtain ⟨e0, e1, e2, e3, e4, e5, e6, hu5⟩ := seven_new w4 _ _ _ _ _ _ _ w5 hw5
    rw [← hm] at e0 e1 e2 e3 e4 e5 e6
    rw [← hq] at ga3 gb3 gc3 z1
    rw [← hs8, hU] at g83
    rw [← hs8] at o83
    have l8 := lt_of_block g83
    have lc := lt_of_block gc3.1
    have hz34 := did34.upd.size
    have D5 := D4.new hu5
    have dw : Did own own4 w w5 := ((H.out.1.didNew hu1).trans did4).trans (D4.didNew hu5)
    have d45 := D4.didNew hu5
    have ka := (did34.zero ga3.1 ga3.2)
    have kb := (did34.zero gb3.1 gb3.2)
    have kc := (did34.zero gc3.1 gc3.2)
    have k8 := (did34.zero g83 o83)
    have ka := d45.zero ka.1 ka.2
    have kb := d45.zero kb.1 kb.2
    have kc := d45.zero kc.1 kc.2
    have k8 := d45.zero k8.1 k8.2
    have of : ∀ i, m ≤ i → own4 i = 0 := fun i hi => D4.far i (by omega)
    have hs18 : w1.heap.size ≤ s8 := by rw [hs8]; exact hu2s.out
    obtain ⟨Fx, hFx⟩ : ∃ Fx : Nat → Option Obj, Fx = fun b => if b = m + 1 + 1 + 1 + 1 + 1 + 1 then some (.cells (attV s8 q m) 71) else if b = s8 then some (.cells n.C.toArray 40) else if b = q then some (.cells #[ptr ssd] 46) else if b = q + 1 then some (.cells #[ptr back] 46)
      else if b = q + 1 + 1 then some (.cells #[.pointer none, .pointer none, .pointer none] 67) else if b = m then some (.cells #[.int .i64 (wh : Int)] 3) else if b = m + 1 then some (.cells #[.int .i64 (sq : Int)] 3) else if b = m + 1 + 1 then some (.cells #[.slice ao 0 cap] 22) else none := ⟨_, rfl⟩
    have hK : Kps own4 w5 Fx := by
      intro b o hb
      rw [hFx] at hb
      simp only [] at hb
      split at hb
      · rename_i h; subst h; cases hb; exact ⟨e6, of _ (by omega)⟩
      split at hb
      · rename_i h; subst h; cases hb; exact k8
      split at hb
      · rename_i h; subst h; cases hb; exact ka
      split at hb
      · rename_i h; subst h; cases hb; exact kb
      split at hb
      · rename_i h; subst h; cases hb; exact kc
      split at hb
      · rename_i h; subst h; cases hb; exact ⟨e0, of _ (by omega)⟩
      split at hb
      · rename_i h; subst h; cases hb; exact ⟨e1, of _ (by omega)⟩
      split at hb
      · rename_i h; subst h; cases hb; exact ⟨e2, of _ (by omega)⟩
      · cases hb
    have hr := att_row (own := own) (own' := own4) (w := w) (W := w5) (g := m + 1 + 1 + 1 + 1 + 1 + 1) (m := m) (s8 := s8) (q := q) (Fx := Fx) (ao := ao) (cap := cap) hE hG (by omega) D5 dw hK ⟨⟨e3, of _ (by omega)⟩, ⟨e4, of _ (by omega)⟩, ⟨e5, of _ (by omega)⟩⟩
      (by rw [hFx]; simp) (by rw [hFx]; simp only []; rw [if_neg (by omega), if_pos trivial]) (by rw [hFx]; simp only []; rw [if_neg (by omega), if_neg (by omega), if_pos trivial]) (by rw [hFx]; simp only []; rw [if_neg (by omega), if_neg (by omega), if_neg (by omega), if_pos trivial])
      (by rw [hFx]; simp only []; rw [if_neg (by omega), if_neg (by omega), if_neg (by omega), if_neg (by omega), if_neg (by omega), if_pos trivial]) (by rw [hFx]; simp only []; rw [if_neg (by omega), if_neg (by omega), if_neg (by omega), if_neg (by omega), if_neg (by omega), if_neg (by omega), if_pos trivial])
      (by rw [hFx]; simp only []; rw [if_neg (by omega), if_neg (by omega), if_neg (by omega), if_neg (by omega), if_neg (by omega), if_neg (by omega), if_neg (by omega), if_pos trivial])
      (by rw [hFx]; simp only []; rw [if_neg (by omega), if_neg (by omega), if_neg (by omega), if_neg (by omega), if_neg (by omega), if_neg (by omega), if_neg (by omega), if_neg (by omega)])
      (by rw [hFx]; simp only []; rw [if_neg (by omega), if_neg (by omega), if_neg (by omega), if_neg (by omega), if_neg (by omega), if_neg (by omega), if_neg (by omega), if_neg (by omega)])
      (by rw [hFx]; simp only []; rw [if_neg (by omega), if_neg (by omega), if_neg (by omega), if_neg (by omega), if_neg (by omega), if_neg (by omega), if_neg (by omega), if_neg (by omega)])
    refine hr.mono fun e W ⟨c, he, h1, h2⟩ => ⟨c, he, fun hc => ?_, h2⟩
    obtain ⟨o6, c6, p6, li, l2, l3, hca, hp, hd, hk, hb, hL⟩ := h1 hc
    exact ⟨o6, c6, p6, li, l2, l3, hca, hp, hd, hk _ _ (by rw [hFx]; simp only []; rw [if_neg (by omega), if_neg (by omega), if_neg (by omega), if_neg (by omega), if_pos trivial]), hb, hL⟩
  have HM : Hid (q + 1 + 1 < m) := by
    have h1 := H1.out.2.2.1
    have h2 := lt_of_block (H3.out.2.2.2.2.2.1.1)
    have h3 := HD4.out.2.2.upd.size
    show _ < _
    omega
  clear hw5 hm hs8 H3 HD4 hEn
  refine HR.out.mono ?_
  rintro e w6 ⟨c0, rfl, h1, h2⟩
  by_cases hc0 : c0 = 0
  rotate_left
  · exact (h2 hc0).elim
  subst hc0
  obtain ⟨o6, c6, p6, li, l2, l3, hca, hp, hd, hk, hb, hL⟩ := h1 rfl
  have H6 := Lib.hid (And.intro hca (And.intro hp (And.intro hd (And.intro hk (And.intro hb hL)))))
  have c13 := cell_of_block hb.1.1 0
  have r14 := range_of_block hb.2.1.1
  have c15 := cell_of_block hb.2.2.1 0
  have hqq := hq
  have HQw : Hid (w.heap.size ≤ q + 1 + 1) := by show _ ≤ _; omega
  clear h1 h2 hca hp hd hk hb hL HR
  go_wp2_with fail
  rw [← hqq]
  clear hq hqq
  have tA := there_of_block (n := 3) H6.out.2.2.2.1.1 (by simp)
  refine wp_region_held_drew (S := fun W => W.cell? ⟨m + 1 + 1 + 1, 0, none⟩ = some (ptr c6) ∧ W.rangeAt (m + 1 + 1 + 1 + 1) 0 [ptr li, ptr l2, ptr l3] ∧ W.cell? ⟨m + 1 + 1 + 1 + 1 + 1, 0, none⟩ = some (.slice none 0 0)) (by kernel_rfl) (⟨by rw [World.cell?_drew]; exact c13, by rw [World.rangeAt_drew]; exact r14, by rw [World.cell?_drew]; exact c15⟩) (fun hHeld => ?_)
  refine Wl.i [0, 2] ?_; iterate 2 refine Wl.t hHeld ?_
  refine Wl.o ?_
  refine Wl.l 1 (fun w h => h.2.1) Tryz.underlying67 infoLogs hHeld ?_
  refine Wl.r 3 (fun K hK => ?_)
  go_simp
  refine hK.out _ _ (hHeld) (fun hHeld2 => ?_)
  clear hK K
  have hud : Upd (fun _ => False) w6 w6.drew := (Upd.refl _ w6).drew
  have tA7 : w6.drew.there (q + 1 + 1) 0 3 := there_of_block (n := 3) (hud.blockv H6.out.2.2.2.1.1) (by simp)
  have hur := upd_row w6.drew (q + 1 + 1) 0 [ptr li, ptr l2, ptr l3]
  have hHeld3 : (w6.drew.setCells (q + 1 + 1) 0 [ptr li, ptr l2, ptr l3]).cell? ⟨m + 1 + 1 + 1, 0, none⟩ = some (ptr c6) ∧ (w6.drew.setCells (q + 1 + 1) 0 [ptr li, ptr l2, ptr l3]).rangeAt (m + 1 + 1 + 1 + 1) 0 [ptr li, ptr l2, ptr l3] ∧ (w6.drew.setCells (q + 1 + 1) 0 [ptr li, ptr l2, ptr l3]).cell? ⟨m + 1 + 1 + 1 + 1 + 1, 0, none⟩ = some (.slice none 0 0) :=
    ⟨hur.cellv hHeld2.1 (by have := HM.out; omega), hur.range hHeld2.2.1 (by have := HM.out; omega), hur.cellv hHeld2.2.2 (by have := HM.out; omega)⟩
  refine Wl.r 4 (fun K hK => ?_)
  rw [if_pos (by rfl)]
  refine wp_store_mid _ _ _ rfl _ _ [ptr li, ptr l2, ptr l3].toArray rfl rfl tA7 infoLogs (by simp [Value.oneCell']) ?_
  simp only [Act.put, List.setIfInBounds_toArray]
  refine hK.out _ _ (hHeld3) (fun _ => ?_)
  clear hK K hHeld hHeld2
  refine Wl.r 5 (fun K hK => ?_)
  go_simp
  refine hK.out _ _ (hHeld3) (fun _ => ?_)
  clear hK K
  refine Wl.r 6 (fun K hK => ?_)
  go_simp
  refine hK.out _ _ (hHeld3) (fun _ => ?_)
  clear hK K
  refine Wl.d ?_
  have HE := Lib.hid (And.intro hud hur)
  clear hHeld3 hud hur c13 r14 c15 tA
  go_wp2
  refine bodyPost_ret (results_x4 rfl _ _ (q + 1 + 1) 0 [ptr li, ptr l2, ptr l3] _ rfl (World.rangeAt_setCells_same _ _ _ _ tA7) Tryz.underlying67 rfl infoLogs) rfl ?_
  obtain ⟨hca, hp, hd, hk, hb, hL⟩ := H6.out
  obtain ⟨hud, hur⟩ := HE.out
  have d7 := hca.didNew hud
  have hca7 := hca.new hud
  have k7 := d7.zero hk.1 hk.2
  have L7 := hL.did d7
  have hbn := box_ne hca7.nib hca7.tur k7.1 k7.2 (fun k y h => by simp at h)
  have ln : ∀ {l : Nat} {v : Array Value} {t : TypeId}, w6.drew.heap[l]? = some (.cells v t (0, 0)) → (∃ x, v[0]? = some (.pointer (some x))) → l ≠ q + 1 + 1 := by
    rintro l v t h ⟨x, hx⟩ e
    rw [e, k7.1] at h
    cases h
    simp at hx
  have hqw : w.heap.size ≤ q + 1 + 1 := HQw.out
  exact ⟨c6, p6, o6, li, l2, l3, rfl, hca7.nobody hur hbn, hp.1, hp.2, (hd.trans d7).mine hur hqw, L7.1.1.keep hur (ln L7.1.1.str ⟨_, rfl⟩), L7.1.2.1.keep hur (ln L7.1.2.1.str ⟨_, rfl⟩), L7.1.2.2.keep hur (ln L7.1.2.2.str ⟨_, rfl⟩), L7.2.1, L7.2.2.1, L7.2.2.2⟩
end Go.Proofs.YtfhfbpmlnjdfoaaGreatDoor
namespace Go.Proofs.YtfhfbpmlnjdfoaaGreatDoor
open Go Go.RowKit
theorem bkD_at {l : List Bk} {s : Nat} {x : Bk} (h : l[s]? = some x) : l.getD s zB = x := by rw [List.getD_eq_getElem?_getD, h]; rfl
theorem flush_zW (A : List Bk) : ∀ k s, (flushF A (zW k))[s]? = if 1 ≤ s ∧ s ≤ k ∧ s < A.length then some zB else A[s]?
  | 0, s => by rw [if_neg (by omega)]; rfl
  | k + 1, s => by
    rw [zW_snoc, flushF_snoc, List.getElem?_set, flush_zW A k s, flushF_len]
    by_cases h : k + 1 = s
    · subst h
      rw [if_pos rfl]
      by_cases hl : k + 1 < A.length
      · rw [if_pos hl, if_pos (by omega)]
      · rw [if_neg hl, if_neg (by omega), List.getElem?_eq_none (by omega)]
    · rw [if_neg h]
      by_cases h1 : 1 ≤ s ∧ s ≤ k ∧ s < A.length
      · rw [if_pos h1, if_pos (by omega)]
      · rw [if_neg h1, if_neg (by omega)]
theorem flush_ckO (A : List Bk) (base : Nat) (B : List Bk) : ∀ k s, (flushF A (ckO base k B))[s]? = if base ≤ s ∧ s < base + k ∧ s < A.length then some (B.getD (s - base) zB) else A[s]?
  | 0, s => by rw [if_neg (by omega)]; rfl
  | k + 1, s => by
    rw [ckO_snoc, flushF_snoc, List.getElem?_set, flush_ckO A base B k s, flushF_len]
    show (if base + k = s then (if base + k < A.length then some (B.getD k zB) else none) else _) = _
    by_cases h : base + k = s
    · subst h
      rw [if_pos rfl]
      by_cases hl : base + k < A.length
      · rw [if_pos hl, if_pos (by omega), Nat.add_sub_cancel_left]
      · rw [if_neg hl, if_neg (by omega), List.getElem?_eq_none (by omega)]
    · rw [if_neg h]
      by_cases h1 : base ≤ s ∧ s < base + k ∧ s < A.length
      · rw [if_pos h1, if_pos (by omega)]
      · rw [if_neg h1, if_neg (by omega)]
def pb0' : Bk := (pagesB 0 []).getD 0 zB
theorem pagesB0 (i : Nat) (h : 1 ≤ i) : (pagesB 0 []).getD i zB = zB := by
  rw [List.getD_eq_getElem?_getD, List.getElem?_eq_none (by rw [pagesB, pagesTo_len]; exact h)]
  rfl
theorem fmt_at {n : CaN} {F : List Bk} {O : List (Nat × Bk)} (hok : n.Ok) (hF : F.length = n.size) (s : Nat) (hs : s < n.size) :
    curB (fmtF n F O) [] s = if s = 0 then n.sec else if s = 1 then pb0' else if s < n.s0 then zB else curB F O s := by
  have hz := n.s0_size
  have hp1 : 1 ≤ n.pa := by have := hok.p1; omega
  have hs0 : 1 + 2 * n.pa ≤ n.s0 := by unfold CaN.s0; omega
  have h1 : (fmt1 F O) = (flushF F O).set 0 zB := flushF_snoc _ _ _
  have hl1 := fmt1_len F O
  have e : (fmtF n F O)[s]? = if 0 = s then (if s < n.size then some n.sec else none) else if 1 ≤ s ∧ s < 1 + n.pa ∧ s < n.size then some ((pagesB 0 []).getD (s - 1) zB) else if 1 ≤ s ∧ s ≤ n.s0 - 1 ∧ s < n.size then some zB else (fmt1 F O)[s]? := by
    show (flushF (fmt2 n F O) [(0, n.sec)])[s]? = _
    rw [show flushF (fmt2 n F O) [(0, n.sec)] = (fmt2 n F O).set 0 n.sec from rfl, List.getElem?_set, fmt2_len, hF]
    unfold fmt2
    rw [flushF_app, flush_ckO, flushF_len, flush_zW, hl1, hF]
    by_cases h0 : 0 = s
    · subst h0; rfl
    · rw [if_neg h0, if_neg h0]
  show (flushF (fmtF n F O) []).getD s zB = _
  rw [show flushF (fmtF n F O) [] = fmtF n F O from rfl]
  refine bkD_at ?_
  rw [e]
  by_cases h0 : s = 0
  · subst h0; rw [if_pos rfl, if_pos hs, if_pos rfl]
  rw [if_neg (fun e => h0 e.symm), if_neg h0]
  by_cases h11 : s = 1
  · subst h11
    rw [if_pos (by omega), if_pos rfl]
    rfl
  rw [if_neg h11]
  by_cases hsp : 1 ≤ s ∧ s < 1 + n.pa ∧ s < n.size
  · rw [if_pos hsp, pagesB0 _ (by omega), if_pos (by omega)]
  rw [if_neg hsp]
  by_cases hss : s < n.s0
  · rw [if_pos hss, if_pos (by omega)]
  · rw [if_neg hss, if_neg (by omega), h1, List.getElem?_set, if_neg (fun e => h0 e.symm)]
    have hl : s < (flushF F O).length := by rw [flushF_len, hF]; exact hs
    rw [List.getElem?_eq_getElem hl]
    congr 1
    exact (bkD_at (List.getElem?_eq_getElem hl)).symm
theorem super_back {xs : List Int} (hx : xs.length = 7) (h : mayS xs = true) : okS (sectS xs) = true ∧ natsI (numsS (sectS xs)) = xs := by
  obtain ⟨h0, hf⟩ := mayS_fits hx h
  obtain ⟨s1, s2⟩ := sect_back (k := 1) (by decide) (sz := szS) (by rw [hx]; rfl) h0 hf (mayS (natsI (numsS (sectS xs))))
  have h3 : natsI (numsS (sectS xs)) = xs := s2
  refine ⟨?_, h3⟩
  unfold okS
  rw [show okGet (sectS xs) 1 szS (mayS (natsI (numsS (sectS xs)))) = mayS (natsI (numsS (sectS xs))) from s1, h3]
  exact h
theorem okR_zero : okR zB = false := by kernel_rfl
theorem readOk_zero {l : List Bk} (h : l.getD 0 zB = zB) : readOk l = false := by unfold readOk; rw [h, okP_zero]; rfl
theorem scan_none {F : List Bk} {O : List (Nat × Bk)} {base n : Nat} : ∀ {k : Nat}, (∀ i, i < k → curB F O (base + i) = zB) → scanTo F O base n k = []
  | 0, _ => rfl
  | k + 1, h => by
    rw [scanTo, scan_none (fun i hi => h i (by omega)), h k (by omega)]
    unfold scL scOk
    rw [okR_zero]
    rfl
theorem secs_at (F : List Bk) (O : List (Nat × Bk)) (base m i : Nat) (h : i < m) : (secsOf F O base m).getD i zB = curB F O (base + i) := by
  unfold secsOf
  rw [List.getD_eq_getElem?_getD, List.getElem?_map, List.getElem?_range h]
  rfl
theorem fmt_emp {n : CaN} {F : List Bk} {O : List (Nat × Bk)} (hok : n.Ok) (hm : mayS n.I = true) (hF : F.length = n.size) : Emp n (fmtF n F O) [] 0 0 := by
  have hz := n.s0_size
  have hp1 : 1 ≤ n.pa := by have := hok.p1; omega
  have hsl := hok.s1
  have at0 := fmt_at (O := O) hok hF 0 (by omega)
  rw [if_pos rfl] at at0
  have hsb := super_back (xs := n.I) rfl hm
  have zat : ∀ s, 2 ≤ s → s < n.s0 → curB (fmtF n F O) [] s = zB := fun s h1 h2 => by rw [fmt_at hok hF s (by omega), if_neg (by omega), if_neg (by omega), if_pos h2]
  have hs0 : n.s0 = 1 + 2 * n.pa + n.jo + n.lo + n.lo + n.lo := rfl
  have r0 := read_pages (seq := 0) (E := []) (by decide) (fun x hx => by cases hx) (by decide) (l := secsOf (fmtF n F O) [] 1 n.pa) (by rw [secsOf_len]; exact hp1) (fun i hi => by
    rw [secsOf_len] at hi
    rw [secs_at _ _ _ _ _ hi]
    by_cases h0 : i = 0
    · subst h0
      rw [fmt_at hok hF 1 (by omega), if_neg (by omega), if_pos rfl]
      rfl
    · rw [zat _ (by omega) (by omega), pagesB0 _ (by omega)])
  have r1 : readOk (secsOf (fmtF n F O) [] (1 + 1 * n.pa) n.pa) = false := readOk_zero (by rw [secs_at _ _ _ _ _ (by omega), zat _ (by omega) (by omega)])
  refine ⟨hok, (fmtF_len n F O).trans hF, ?_, ?_, ?_, scan_none (fun i hi => zat _ (by omega) (by omega)), by omega, by decide, fun j hj => zat _ (by omega) (by omega), Nat.zero_le _⟩
  · rw [at0]; exact hsb.1
  · rw [at0, show natsI (numsS n.sec) = n.I from hsb.2]; rfl
  · have e0 : nwS (fmtF n F O) [] 1 n.pa 1 = (true, 0, 0, []) := by
      rw [nwS]
      have e : (1 + 0 * n.pa) = 1 := by omega
      rw [e, r0.1, r0.2.1, r0.2.2]
      rfl
    rw [nwS, r1, e0]
    rfl
def DevsOut (w : World) (n : CaN) (e : Ending) (w' : World) : Prop :=
  ∃ own ssd back, e = .returned (.tuple #[ptr ssd, ptr back]) ∧ Dvs own w' ssd back (List.replicate n.size zB) [] (List.replicate n.bl zB) [] [] ∧ Below w.heap.size w w' ∧ ∀ j, j < w.heap.size → own j = 0
set_option maxRecDepth 100000 in
set_option maxHeartbeats 1000000 in
theorem devs_ok (n : CaN) (id : Int) (hok : n.Ok) (w : World) (nib : Nib w) (tur : Tur w) : Calls Tryz.prog 17 #[.agg (superC id n.bl n.sl n.jo n.pa n.lo n.ba).toArray] w (DevsOut w n) := by
  obtain ⟨U, hU⟩ : ∃ U, U = superC id n.bl n.sl n.jo n.pa n.lo n.ba := ⟨_, rfl⟩
  obtain ⟨V, hV⟩ : ∃ V, V = layC n.sl n.jo n.pa n.lo := ⟨_, rfl⟩
  obtain ⟨w1, hw1⟩ : ∃ w1, w1 = w.alloc (.cells U.toArray 40) := ⟨_, rfl⟩
  have hg1 : w1.heap[w.heap.size]? = some (.cells U.toArray 40) := by rw [hw1]; exact heap_alloc_last w _ rfl
  have hu1 : Upd (fun _ => False) w w1 := by rw [hw1]; exact (Upd.refl _ w).alloc _
  have hrU : w1.rangeAt w.heap.size 0 U := range_of_block hg1
  have hsU : (Tryz.prog.info? 40).map (·.size) = some U.length := by rw [hU]; exact infoSup
  have HPl : Hid (Calls Tryz.prog 14 #[.agg U.toArray] w1 fun e w' => e = .returned (.tuple #[.agg V.toArray, .int .i64 0]) ∧ Below w1.heap.size w1 w') := by
    show Calls _ _ _ _ _
    rw [hU, hV]
    obtain ⟨b1, b2, s1, s2, j1, j2, l1, l2, a1, a2, p1, p2, z⟩ := hok
    exact plan_ok id n.bl n.sl n.jo n.pa n.lo n.ba b1 b2 s1 s2 j1 j2 l1 l2 a1 a2 p1 p2 z w1
  rw [← hU]
  have H := Lib.hid (And.intro nib (And.intro tur (And.intro hok (And.intro hU (And.intro hV (And.intro hg1 hu1))))))
  rw [hw1] at hrU
  have HW1 := Lib.hid hw1
  have HU := Lib.hid (And.intro hrU hsU)
  clear nib tur hok hU hV hg1 hu1 hrU hsU hw1
  go_enter Tryz.func17, Tryz.ntmps17
  go_wp2_with (first
    | (refine wpList_load_mid rfl _ _ rfl _ _ rfl _ _ HU.out.1 Tryz.underlying40 rfl HU.out.2 ?_)
    | fail)
  rw [← HW1.out]
  refine HPl.out.mono ?_
  rintro e w2 ⟨rfl, hb2⟩
  obtain ⟨nib, tur, hok, hU, hV, hg1, hu1⟩ := H.out
  obtain ⟨w3, hw3⟩ : ∃ w3, w3 = w2.alloc (.cells V.toArray 43) := ⟨_, rfl⟩
  have hu2 : Upd (fun _ => False) w1 w2 := Upd.of_below hb2
  have hu3 : Upd (fun _ => False) w2 w3 := by rw [hw3]; exact (Upd.refl _ w2).alloc _
  have hg3 : w3.heap[w2.heap.size]? = some (.cells V.toArray 43) := by rw [hw3]; exact heap_alloc_last w2 _ rfl
  have hg13 := (hu2.trans hu3).blockv hg1
  have hU3 := (hu1.trans hu2).trans hu3
  have hVl : V.length = 7 := by rw [hV]; rfl
  have hV1 : ∀ v ∈ V, v.oneCell' = true := by rw [hV]; exact layC_mem _ _ _ _
  have hsV : Hid ((Tryz.prog.info? 43).map (·.size) = some V.length) := by show _ = _; rw [hVl]; exact infoLay
  have v6 : w3.cell? ⟨w2.heap.size, 6, none⟩ = some (.int .i64 (n.size : Int)) := by
    rw [cell_of_block hg3, hV]; simp [layC, CaN.size]
  have u1 : w3.cell? ⟨w.heap.size, 1, none⟩ = some (.int .i64 (n.bl : Int)) := by
    rw [cell_of_block hg13, hU]; simp [superC]
  have hz4 : n.size ≤ 4096 := hok.z
  have hz1 : 1 ≤ n.size := by unfold CaN.size; omega
  have hD1 := dnew_ok n.size hz1 hz4 w3
  have H3 := Lib.hid (And.intro hU3 (And.intro hg13 (And.intro v6 u1)))
  have HV := Lib.hid (And.intro hVl (And.intro hV1 hD1))
  have HW3 := Lib.hid hw3
  rw [hw3] at v6
  have hlt := lt_of_block hg13
  clear nib tur hok hU hV hg1 hu1 hb2 hu2 hu3 hg3 hg13 hU3 hVl hV1 u1 hD1 hw3
  go_wp2_with (first
    | (refine wpList_store_new rfl _ _ _ rfl _ _ _ rfl rfl (by rw [HV.out.1]; rfl) hsV.out HV.out.2.1 ?_)
    | fail)
  rw [← HW3.out]
  refine HV.out.2.2.mono ?_
  rintro e w4 ⟨b1, rfl, hX1, hlo1, hb4⟩
  have hu4 : Upd (fun _ => False) w3 w4 := Upd.of_below hb4
  have u1 := hu4.cellv H3.out.2.2.2 (fun h => h)
  obtain ⟨nib, tur, hok, hU, hV, hg1, hu1⟩ := H.out
  have hD2 := Lib.hid (dnew_ok n.bl hok.b1 hok.b2 w4)
  have H4 := Lib.hid (And.intro hX1 hu4)
  clear hX1 hb4 hu4 nib tur hok hU hV hg1 hu1 v6 hlt
  go_wp2_with fail
  refine hD2.out.mono ?_
  rintro e w5 ⟨b2, rfl, hX2, hlo2, hb5⟩
  have hu5 : Upd (fun _ => False) w4 w5 := Upd.of_below hb5
  have H5 := Lib.hid (And.intro hX2 hu5)
  clear hX2 hb5 hu5 u1 hD2
  go_wp2
  go_ret2
  obtain ⟨nib, tur, hok, hU, hV, hg1, hu1⟩ := H.out
  obtain ⟨hX2, hu5⟩ := H5.out
  have hU5 := (H3.out.1.trans H4.out.2).trans hu5
  obtain ⟨own, hown⟩ : ∃ own : Nat → Nat, own = fun j => if w3.heap.size ≤ j ∧ j < w4.heap.size then 2 else if w4.heap.size ≤ j ∧ j < w5.heap.size then 3 else 0 := ⟨_, rfl⟩
  have hs3 := H3.out.1.size
  have hs4 := H4.out.2.size
  have hs5 := hu5.size
  have h2 : Dv (fun j => own j = 2) w5 b1 (List.replicate n.size zB) [] [] := by
    have a1 : Dv (fun j => w3.heap.size ≤ j ∧ j < w4.heap.size) w4 b1 (List.replicate n.size zB) [] [] := H4.out.1.out (fun j h1 h2 => ⟨h2, h1⟩)
    exact ((a1.new hu5).out (fun j _ hj => by rw [hown]; simp [hj.1, hj.2]))
  have h3 : Dv (fun j => own j = 3) w5 b2 (List.replicate n.bl zB) [] [] := hX2.out (fun j h1 h2 => by
    rw [hown]; have h2' : w4.heap.size ≤ j := h2; simp only []; rw [if_neg (by omega), if_pos ⟨h2', h1⟩])
  have hnl := nib.lt
  have htl := tur.lt
  refine ⟨own, b1, b2, rfl, ⟨h2, h3, fun j hj => ?_, nib.keep hU5 (fun h => h), tur.keep hU5 (fun h => h), ?_, ?_⟩, Upd.below hU5, fun j hj => ?_⟩
  · rw [hown]; simp only []; rw [if_neg (by omega), if_neg (by omega)]
  · rw [hown]; simp only []; rw [if_neg (by omega), if_neg (by omega)]
  · rw [hown]; simp only []; rw [if_neg (by omega), if_neg (by omega)]
  · rw [hown]; simp only []; rw [if_neg (by omega), if_neg (by omega)]
def AtNo (own : Nat → Nat) (w : World) (ssd back : Nat) (F : List Bk) (O : List (Nat × Bk)) (G : List Bk) (Q : List (Nat × Bk)) (P : List Int) (cd : Int) (e : Ending) (w' : World) : Prop :=
  e = .returned (.tuple #[.pointer none, .agg #[.pointer none, .pointer none, .pointer none], .slice none 0 0, .int .i64 cd]) ∧ ∃ own', Dvs own' w' ssd back F O G Q P ∧ Did own own' w w'
theorem buildLogs_run : ∀ w : World, (Instr.build 67 #[]).run Tryz.prog w = .ok (.agg #[.pointer none, .pointer none, .pointer none]) w := by
  intro w; kernel_rfl
set_option maxRecDepth 100000 in
set_option maxHeartbeats 1000000 in
theorem aattach_no {own : Nat → Nat} {w : World} {ssd back : Nat} {F G : List Bk} {O Q : List (Nat × Bk)} {P : List Int} (hD : Dvs own w ssd back F O G Q P) (n : CaN) (hok : n.Ok) (hF : 0 < F.length) (hy : okS (curB F O 0) = true → dsS (natsI (numsS (curB F O 0))) = n.C)
    (cd : Int) (hR : supR n F G (curB F O 0) = (zeroS, cd)) (hcd : cd ≠ 0) :
    Calls Tryz.prog 23 #[ptr ssd, ptr back] w (AtNo own w ssd back F O G Q P cd) := by
  obtain ⟨Z, hZ⟩ : ∃ Z, Z = zeroS := ⟨_, rfl⟩
  obtain ⟨w1, hw1⟩ : ∃ w1, w1 = ((w.alloc (.cells #[ptr ssd] 46)).alloc (.cells #[ptr back] 46)).alloc (.cells #[.pointer none, .pointer none, .pointer none] 67) := ⟨_, rfl⟩
  have hu1 : Upd (fun _ => False) w w1 := by rw [hw1]; exact (((Upd.refl _ w).alloc _).alloc _).alloc _
  have z1 : w1.heap.size = w.heap.size + 3 := by rw [hw1]; simp
  obtain ⟨ga1, gb1, gc1, -, -⟩ := three_new w (.cells #[ptr ssd] 46) (.cells #[ptr back] 46) (.cells #[.pointer none, .pointer none, .pointer none] 67)
  rw [← hw1] at ga1 gb1 gc1
  have D1 := hD.new hu1
  have hsup := asuper D1.open2 (fun j hj => .inr hj) D1.back (fun j h3 h2 => by rcases h2 with h2 | h2; rw [h3] at h2; exact absurd h2 (by decide); rw [D1.far j h2] at h3; exact absurd h3 (by decide)) D1.nib D1.on2 hF n hok hy
  rw [hR, ← hZ] at hsup
  have HS : Hid (Calls Tryz.prog 21 #[ptr ssd, ptr back] w1 (fun e w' => e = .returned (.tuple #[.agg Z.toArray, .int .i64 cd]) ∧ Dv (fun j => own j = 2 ∨ w1.heap.size ≤ j) w' ssd F O [] ∧ Upd (fun j => own j = 2 ∨ w1.heap.size ≤ j) w1 w')) := hsup
  have H1 := Lib.hid (And.intro hw1 (And.intro hu1 (And.intro z1 (And.intro gc1 (And.intro D1 hD)))))
  have ca := cell_of_block ga1 0
  have cb := cell_of_block gb1 0
  have hZl : Z.length = 7 := by rw [hZ]; rfl
  have hZ1 : ∀ v ∈ Z, v.oneCell' = true := by rw [hZ]; exact List.all_eq_true.1 (by simp [zeroS, Value.oneCell'])
  have hsZ : (Tryz.prog.info? 40).map (·.size) = some Z.length := by rw [hZl]; exact infoThS
  have q0 : (cd == 0) = false := by simpa using hcd
  have HC := Lib.hid hcd
  have hbl := buildLogs_run
  clear hD hok hF hy hR hcd hw1 hu1 z1 ga1 gb1 gc1 D1 hsup hZ
  go_enter Tryz.func23, Tryz.ntmps23
  go_wp2_with fail
  rw [← H1.out.1]
  refine HS.out.mono ?_
  rintro e w2 ⟨rfl, hd2, hu2⟩
  have D2 := H1.out.2.2.2.2.1.turn2 hu2 hd2
  have did2 := H1.out.2.2.2.2.1.did2 hu2
  obtain ⟨own2, hown2⟩ : ∃ own2, own2 = grow own 2 w1.heap.size w2.heap.size := ⟨_, rfl⟩
  rw [← hown2] at D2 did2
  obtain ⟨w3, hw3⟩ : ∃ w3, w3 = w2.alloc (.cells Z.toArray 40) := ⟨_, rfl⟩
  have hu3 : Upd (fun _ => False) w2 w3 := by rw [hw3]; exact (Upd.refl _ w2).alloc _
  have D3 := D2.new hu3
  have did3 := did2.trans (D2.didNew hu3)
  have gc3 := did3.zero H1.out.2.2.2.1 (H1.out.2.2.2.2.2.far _ (by omega))
  have tA := there_of_block (n := 3) gc3.1 (by simp)
  obtain ⟨q, hq⟩ : ∃ q, q = w.heap.size + 1 + 1 := ⟨_, rfl⟩
  have H3 := Lib.hid (And.intro hw3 (And.intro D3 (And.intro did3 (And.intro gc3 (show w.heap.size ≤ w.heap.size + 1 + 1 by omega)))))
  have HQ := Lib.hid hq
  rw [hw3] at tA
  clear hd2 hu2 D2 did2 hown2 hu3 D3 did3 gc3 hw3 HS ca cb hq
  go_wp2_with (first
    | (refine wpList_store_new rfl _ _ _ rfl _ _ Z rfl rfl (by rw [hZl]; rfl) hsZ hZ1 ?_)
    | (refine wpList_build0 rfl _ rfl hbl ?_)
    | (refine wpList_store_mid rfl _ _ _ rfl _ _ [Value.pointer none, Value.pointer none, Value.pointer none].toArray rfl rfl tA infoLogs (by simp [Value.oneCell']) ?_)
    | fail)
  refine bodyPost_ret (results_x4 rfl _ _ (w.heap.size + 1 + 1) 0 [.pointer none, .pointer none, .pointer none] _ rfl (World.rangeAt_setCells_same _ _ _ _ tA) Tryz.underlying67 rfl infoLogs) rfl ?_
  obtain ⟨hw3, D3, did3, gc3, hql⟩ := H3.out
  rw [← hw3]
  have hur := upd_row w3 (w.heap.size + 1 + 1) 0 [Value.pointer none, Value.pointer none, Value.pointer none]
  have hbn := box_ne D3.nib D3.tur gc3.1 gc3.2 (fun k y h => by simp at h)
  refine ⟨rfl, own2, ⟨D3.ssd.keep hur (fun j h e => ?_), D3.back.keep hur (fun j h e => ?_), fun j hj => D3.far j (Nat.le_trans hur.size hj), D3.nib.keep hur (fun e => (hbn _ e).2.1 rfl), D3.tur.keep hur (fun e => (hbn _ e).2.2 rfl), D3.on, D3.ot⟩, ((H1.out.2.2.2.2.2.didNew H1.out.2.1).trans did3).mine hur hql⟩
  · have := (hbn j e).1; rw [this] at h; cases h
  · have := (hbn j e).1; rw [this] at h; cases h
end Go.Proofs.YtfhfbpmlnjdfoaaGreatDoor
