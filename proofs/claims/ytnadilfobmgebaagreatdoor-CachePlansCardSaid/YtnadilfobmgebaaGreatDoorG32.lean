/- The log of intents: its kind of things; Next. Intents: their numbers, which may be, and the intent of numbers. The form of intents. An intent, as a sector. An intent as a sector: PutCert. -/
import Derived.Test.YtnadilfobmgebaaGreatDoorG29
import Derived.Test.YtnadilfobmgebaaGreatDoorG11
import Derived.Laws.EntriesVeiled
import Derived.Test.YtnadilfobmgebaaGreatDoorG12
namespace Go.Proofs.YtnadilfobmgebaaGreatDoor
open Go Go.RowKit
theorem infoIn_len {xs : List Value} (h : (Tryz.prog.info? 39).map (·.size) = some xs.length) : ∃ a b c d, xs = [a, b, c, d] := by
  rw [infoIn] at h
  injection h with h
  match xs, h with
  | [a, b, c, d], _ => exact ⟨a, b, c, d, rfl⟩
set_option maxRecDepth 100000 in
theorem tellsOpen1 : TellsI 101 := by
  refine ⟨fun _ _ => rfl, fun W a xs hx hl => ?_⟩
  obtain ⟨x0, x1, x2, x3, rfl⟩ := infoIn_len hl
  simp at hx
  subst hx
  go_enter Tryz.func101, Tryz.ntmps101
  go_wp2
  go_ret
  exact ⟨rfl, (Below.refl _ _).alloc (Nat.le_refl _) _⟩
def kindI : Kind := ⟨okI, fun v => ints (natsI (numsI v)), cdI, fun v => ((numsI v).getD 0 0 : Nat)⟩
abbrev zsI : List Value := [Value.int .i64 0, .int .i64 0, .int .i64 0, .int .i64 0]
abbrev intC (a b c d : Int) : List Value := [.int .i64 a, .int .i64 b, .int .i64 c, .int .i64 d]
theorem putI {S : Nat → Prop} {w : World} {l b base n fi : Nat} {F : List Bk} {O : List (Nat × Bk)} {P : List Int} (hl : LogI w l b base n fi) (hd : Dv S w b F O P) (hn : ∀ j, w.heap.size ≤ j → S j) (hSl : ¬ S l) (hN : Nib w)
    (hSN : ¬ S 0) (hfi : TellsI fi) (hbn : base + n ≤ F.length) (hO : O.length < 65000) (x1 x2 x3 x4 : Int) :
    Calls Tryz.prog 23 #[.pointer (some ⟨l, 0, none⟩), .agg (intC x1 x2 x3 x4).toArray] w (Out S w b (logPutR (mayI [x1, x2, x3, x4]) base n x1 (intentB x1.toNat x2.toNat x3.toNat x4.toNat) F O P)) :=
  putI_log hl hd hn hSl hN hSN hfi hbn hO (intC x1 x2 x3 x4) x1 rfl infoIn _ _ (sectB_len (by show 16 ≤ 59; decide)) (fun W hW => (PutI_any hW x1 x2 x3 x4).mono (fun e w' ⟨h, hb⟩ => by
    rcases h with ⟨h1, rfl⟩ | ⟨h1, rfl⟩
    · exact ⟨_, 0, .inl ⟨h1, rfl, rfl⟩, rfl, hb⟩
    · exact ⟨_, 10, .inr ⟨h1, rfl, rfl⟩, rfl, hb⟩))
def bndT : List (Int × Int) := [(0, 1099511627776), (0, 1099511627776), (0, 4096), (1, 4096), (0, 1048576), (0, 1048576)]
def FormT (w : World) (gs gt : Nat) : Prop := w.rangeAt gs 0 (ints [6, 6, 2, 2, 3, 3]) ∧ ∃ v, w.cell? ⟨gt, 0, none⟩ = some v ∧ Bnd w v bndT
theorem FormT.below {w w' : World} {gs gt : Nat} (h : FormT w gs gt) (hb : Below w.heap.size w w') : FormT w' gs gt := by
  obtain ⟨h1, v, h2, h3⟩ := h
  exact ⟨Below.range hb h1, v, (Upd.of_below (S := fun _ => False) hb).cellv h2 (fun h => h), h3.below hb⟩
end Go.Proofs.YtnadilfobmgebaaGreatDoor
