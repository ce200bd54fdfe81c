/- A nil clock has nothing, and keys of other types are kept as well: for every text, every number. -/
import Derived.Test.YtmgcekpfnkcmjaaSecStr
import Derived.ChangeMaps5
import Derived.Test.YtmgcekpfnkcmjaaPlay07
import Derived.Test.YtmgcekpfnkcmjaaRows
namespace Go.Proofs.Ytmgcekpfnkcmjaa.secondNil
open Go Go.RowKit Go.ChangeShapes Go.WideShapes Go.ChangeAt Go.Proofs.Ytmgcekpfnkcmjaa

set_option maxRecDepth 100000 in
set_option maxHeartbeats 4000000 in
theorem walk (s : ByteArray) (n : Int) (w : World) :
    Calls Try.prog 12 #[.string s, .int .i64 n] w fun e w' => e = .returned (.bool true) ∧ Below w.heap.size w w' := by
  go_enter Try.func12, Try.ntmps12
  go_wp2_with fail
  refine (keys_nil _).mono ?_
  rintro e w1 ⟨v1, u1, rfl, hs1, _, _, _, hb1⟩
  obtain ⟨a1, c1, rfl⟩ := hs1.rd.nil_iff
  have B1 := Lib.hid hb1
  clear hs1 hb1
  go_wp2_with fail
  refine (ghosts_nil _).mono ?_
  rintro e w2 ⟨v2, rfl, hs2, _, hb2⟩
  obtain ⟨a2, c2, rfl⟩ := hs2.rd.nil_iff
  have B2 := Lib.hid (B1.out.trans (hb2.mono B1.out.size))
  clear hs2 hb2
  go_wp2_with fail
  refine (evict_nil 0 _).mono ?_
  rintro e w3 ⟨rfl, hb3⟩
  have B3 := Lib.hid (B2.out.trans (hb3.mono B2.out.size))
  clear hb3
  go_wp2_with fail
  refine (snew _).mono ?_
  rintro e w4 ⟨b, mb, rfl, hc4, hbw, hb4⟩
  have B4 := Lib.hid (B3.out.trans (hb4.mono B3.out.size))
  have H4 := Lib.hid (And.intro hc4 (Nat.le_trans B3.out.size hbw))
  clear hc4 hbw hb4
  go_wp2_with (first
    | ((go_at_call 35; refine (kadd_nil _ _).mono ?_; rintro e w' ⟨rfl, rfl⟩))
    | ((go_at_call 37; refine (ktouch_nil _ _).mono ?_; rintro e w' ⟨rfl, rfl⟩))
    | ((go_at_call 33; refine (kdrop_nil _ _).mono ?_; rintro e w' ⟨rfl, rfl⟩))
    | ((go_at_call 32; refine (khas_nil _ _).mono ?_; rintro e w' ⟨rfl, rfl⟩))
    | ((go_at_call 31; refine (kghost_nil _ _).mono ?_; rintro e w' ⟨rfl, rfl⟩))
    | ((go_at_call 34; refine (klen_nil _).mono ?_; rintro e w' ⟨rfl, rfl⟩)))
  refine (sadd_new H4.out.1 s).mono ?_
  rintro e w5 ⟨vk, rfl, hc5, hu5⟩
  have B5 := Lib.hid (below_upd B4.out hu5 (Nat.le_refl _) (fun j e => e ▸ H4.out.2))
  have H5 := Lib.hid hc5
  clear hc5 hu5
  go_wp2_with fail
  refine (sadd_there H5.out).mono ?_
  rintro e w6 ⟨rfl, hb6⟩
  have B6 := Lib.hid (B5.out.trans (hb6.mono B5.out.size))
  have H6 := Lib.hid (H5.out.keep (Upd.of_below hb6))
  clear hb6
  go_wp2_with fail
  refine (sevict_nil _).mono ?_
  rintro e w7 ⟨rfl, hb7⟩
  have B7 := Lib.hid (B6.out.trans (hb7.mono B6.out.size))
  have H7 := Lib.hid (H6.out.keep (Upd.of_below hb7))
  clear hb7
  go_wp2_with fail
  refine (shas_one H7.out).mono ?_
  rintro e w8 ⟨rfl, hb8⟩
  have B8 := Lib.hid (B7.out.trans (hb8.mono B7.out.size))
  have H8 := Lib.hid (H7.out.keep (Upd.of_below hb8))
  clear hb8
  go_wp2_with fail
  refine (slen_one H8.out).mono ?_
  rintro e w9 ⟨rfl, rfl⟩
  go_wp2_with fail
  refine (awake07 _).mono ?_
  rintro e wc ⟨rfl, hbc⟩
  go_wp2
  go_ret
  exact ⟨rfl, B8.out.trans (hbc.mono B8.out.size)⟩
theorem own : ownKnob Try.prog.godebug = none := by kernel_rfl

set_option maxRecDepth 100000 in
theorem lifted (os : Os) (started : os.Started) (H : Type) (enc : TypeId × Value → H) :
    ReturnsInHanded {} Try.checked os 12 .any (Rows.secondNilSpec.pre6 enc Try.prog Try.f12 Rows.secondNilRow.domain false) (Rows.secondNilSpec.post enc Try.prog Try.f12 false true false false) := by
  refine returnsInHanded_of_change (C := Try.checked) own started (by kernel_rfl) Try.func12
    (ChangeSpec.witness6 (enc := enc) (C := Try.checked) false ⟨#[], #[.string ⟨#[]⟩,.int .i64 0], []⟩ 8 (by kernel_rfl) (by kernel_rfl) (by kernel_rfl) (by kernel_rfl)) ?_
  intro W base args ds gs before hval0 hW hcnd _
  have hval : ∀ (j : Nat) t v, Try.f12.params[j]? = some t → args[j]? = some v → Value.okWide Try.prog W .any base t v := hval0
  have hW' := hW
  obtain ⟨p, q, hA0, hV, rfl, hfz, hnd⟩ := hW
  have hA : DataW.TrodAll enc Try.prog W 0 (fun _ => true) true Try.f12.params.toList args.toList ds p := hA0
  rw [Try.params12] at hA hval
  obtain ⟨v0, vs0, d0, ds0, p0, q0, hargs, rfl, rfl, h0, r0⟩ := trodAll_cons hA
  obtain ⟨v1, vs1, d1, ds1, p1, q1, rfl, rfl, rfl, h1, r1⟩ := trodAll_cons r0
  obtain ⟨rfl, rfl, rfl⟩ := trodAll_nil r1
  obtain rfl : args = #[v0, v1] := by cases args; simp_all
  obtain ⟨rfl, rfl⟩ := trodVars_none hV
  obtain ⟨s, rfl, rfl, rfl, _⟩ := Go.ChangeMaps.open_string Try.underlying9 (hval 0 9 v0 rfl rfl) h0
  obtain ⟨a1, rfl, rfl, rfl, w1⟩ := open_int Try.underlying3 (hval 1 3 v1 rfl rfl) h1
  refine (walk s a1 W).mono fun e W' ⟨he, hb⟩ => ?_
  subst he
  exact ⟨_, rfl, law_post (T := 4) (by kernel_rfl) (by kernel_rfl) rfl Try.underlying4 rfl rfl hW' hb⟩

theorem over : Rows.secondNilRow.holds Try.pinned (OpenSpec.ofChange Rows.secondNilSpec) :=
  OpenClaim.holds_of_wide 12 Try.f12 rfl rfl rfl rfl rfl rfl rfl ⟨rfl, rfl, rfl, rfl, rfl⟩ rfl rfl rfl rfl rfl (by kernel_rfl) Try.func12 (by kernel_rfl)
    (of_decide_eq_true (by kernel_rfl)) (by unfold Func.isWrapper; first | (rw [if_pos (by decide +kernel)]; kernel_rfl) | (rw [if_neg (by decide +kernel)]; exact ⟨rfl, rfl⟩))
    (fun os started H enc _ => lifted os started H enc)

/-- The statement. -/
theorem proved : Rows.SecondNilSaid :=
  over
end Go.Proofs.Ytmgcekpfnkcmjaa.secondNil
