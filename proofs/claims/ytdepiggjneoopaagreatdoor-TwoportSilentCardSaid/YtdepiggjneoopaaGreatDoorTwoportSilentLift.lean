/- TwoportSilent: it returns true, of every input. The row, and the tied card. No condition but what the row itself lists. -/
import Derived.Test.YtdepiggjneoopaaGreatDoorZTSl
import Derived.Test.YtdepiggjneoopaaGreatDoorZOpenEls
import Derived.Test.YtdepiggjneoopaaGreatDoorLw23Later
import Derived.Test.YtdepiggjneoopaaGreatDoorCards
import Derived.Test.YtdepiggjneoopaaGreatDoorTie
import Derived.WalkKit
import Derived.ProofKit
import Derived.OpenShut
import Derived.ChangeOld
import Derived.Below
import Derived.Lay
import Derived.SevenTiedAt
namespace Go.Proofs.YtdepiggjneoopaaGreatDoor
open Go.ChangeShapes Go.WideShapes Go.ChangeAt Go.RowKit Go.Joins Go.Deep
theorem twoportSilentOwn : ownKnob Tryz.prog.godebug = none := by kernel_rfl
set_option maxRecDepth 100000 in
theorem twoportSilent_lifted (os : Os) (started : os.Started) (H : Type) (enc : TypeId × Value → H) :
    ReturnsInHanded {} Tryz.checked os 3 .any (fun w args => (Rows.twoportSilentSpec.pre enc Tryz.prog Tryz.f3 [] false w args ∧ laidMetH Tryz.prog clL w) ∧ sizedMet enc Tryz.prog Tryz.f3 (OpenSpec.ofChange Rows.twoportSilentSpec) false w args)
      (Rows.twoportSilentSpec.post enc Tryz.prog Tryz.f3 false true false false) := by
  refine returnsInHanded_of_change_and (C := Tryz.checked) (X := fun w _ => laidMetH Tryz.prog clL w) (fun _ _ _ hh h => h.of_heap hh) twoportSilentOwn started (by kernel_rfl) Tryz.func3
    (ChangeSpec.witness_shaped (enc := enc) (C := Tryz.checked) (os := os) (X := fun w _ => laidMetH Tryz.prog clL w) false (World.laidAll Tryz.prog os clL) #[.slice none 0 0, .string ⟨#[]⟩, .string ⟨#[]⟩, .int .u64 0, .int .u64 0, .int .i64 0] 8 (World.laidAll_os _ _ _)
      (World.shaped_of_ZipB (by kernel_rfl) (by kernel_rfl)) (by kernel_rfl) (by kernel_rfl) (by kernel_rfl)
      (by rw [MakeChecks.laidMetH_plain _ _ _ (by kernel_rfl)]; exact laidMet_laidAll _ (by kernel_rfl) (by kernel_rfl))) ?_
  intro W base args ds gs before hval0 hW hcnd hsz0 hL _
  have hval : ∀ (j : Nat) t v, Tryz.f3.params[j]? = some t → args[j]? = some v → Value.okWide Tryz.prog W .any base t v := hval0
  have hsz1 : (DataW.weightsEach Tryz.prog (Tryz.f3.params.toList ++ []) (ds ++ gs)).all (· ≤ reachBytes) = true := hsz0
  have hW' := hW
  obtain ⟨p, q, hA0, hV, rfl, _, _⟩ := hW
  have hA : DataW.TrodAll enc Tryz.prog W 0 (fun _ => true) true Tryz.f3.params.toList args.toList ds p := hA0
  rw [Tryz.params3] at hA hsz1 hval
  obtain ⟨v0, w0, d0, e0, p0, q0, ha0, rfl, rfl, h0, r0⟩ := trodAll_cons hA
  obtain ⟨v1, w1, d1, e1, p1, q1, rfl, rfl, rfl, h1, r1⟩ := trodAll_cons r0
  obtain ⟨v2, w2, d2, e2, p2, q2, rfl, rfl, rfl, h2, r2⟩ := trodAll_cons r1
  obtain ⟨v3, w3, d3, e3, p3, q3, rfl, rfl, rfl, h3, r3⟩ := trodAll_cons r2
  obtain ⟨v4, w4, d4, e4, p4, q4, rfl, rfl, rfl, h4, r4⟩ := trodAll_cons r3
  obtain ⟨v5, w5, d5, e5, p5, q5, rfl, rfl, rfl, h5, r5⟩ := trodAll_cons r4
  obtain ⟨rfl, rfl, rfl⟩ := trodAll_nil r5
  have hargs : args = #[v0, v1, v2, v3, v4, v5] := by cases args; simp_all
  subst hargs
  obtain ⟨rfl, rfl⟩ := trodVars_none hV
  obtain ⟨a0, n0, c0, rfl⟩ := okWide_slice Tryz.underlying22 (hval 0 22 v0 rfl rfl)
  obtain ⟨hs0, hs1⟩ := small_head hsz1
  obtain ⟨s, rfl, _, _, ws⟩ := Go.ChangeMaps.open_string Tryz.underlying9 (hval 1 9 v1 rfl rfl) h1
  obtain ⟨t, rfl, _, _, wt⟩ := Go.ChangeMaps.open_string Tryz.underlying9 (hval 2 9 v2 rfl rfl) h2
  obtain ⟨m, rfl, _, _, wa⟩ := open_int Tryz.underlying23 (hval 3 23 v3 rfl rfl) h3
  obtain ⟨k, rfl, _, _, wb⟩ := open_int Tryz.underlying23 (hval 4 23 v4 rfl rfl) h4
  obtain ⟨ph, rfl, _, _, _⟩ := open_int Tryz.underlying3 (hval 5 3 v5 rfl rfl) h5
  have g0 : 0 ≤ m := by simp [Lit.wf] at wa; exact wa.1
  obtain ⟨om, rfl⟩ := Int.eq_ofNat_of_zero_le g0
  have g1 : 0 ≤ k ∧ k < 18446744073709551616 := by simp [Lit.wf] at wb; have e0 : IntKind.u64.min = 0 := rfl; have e1 : IntKind.u64.max = 18446744073709551615 := rfl; omega
  obtain ⟨vv, rfl⟩ := Int.eq_ofNat_of_zero_le g1.1
  obtain ⟨fuel, h0⟩ := h0
  obtain ⟨l, hR, hm, hok⟩ := open_els h0 hs0
  refine (silent_walk _ l s t om vv ph W (fun w' hb => lv23Later hL hb) hR hok ws wt (by omega)).mono fun e W' ⟨he, hb⟩ => ?_
  subst he
  exact ⟨_, rfl, post_true Tryz.laidOut (by kernel_rfl) Tryz.underlying4 (by kernel_rfl) rfl rfl hW' hb⟩
end Go.Proofs.YtdepiggjneoopaaGreatDoor
