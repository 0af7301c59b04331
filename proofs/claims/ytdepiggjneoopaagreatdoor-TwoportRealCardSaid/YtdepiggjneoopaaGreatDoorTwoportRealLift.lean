/- TwoportReal: it returns true, of every input. The row, and the tied card. No condition but what the row itself lists. -/
import Derived.Test.YtdepiggjneoopaaGreatDoorZTRl
import Derived.Test.YtdepiggjneoopaaGreatDoorZOpenEls
import Derived.Test.YtdepiggjneoopaaGreatDoorLv23Later
import Derived.Test.YtdepiggjneoopaaGreatDoorCards
import Derived.Test.YtdepiggjneoopaaGreatDoorTie
import Derived.WalkKit
import Derived.ProofKit
import Derived.OpenShut
import Derived.ChangeOld
import Derived.Below
import Derived.Lay
import Derived.SevenTiedAt
namespace Go.Proofs.YtdepiggjneoopaaGreatDoor
open Go.ChangeShapes Go.WideShapes Go.ChangeAt Go.RowKit Go.Joins Go.Deep
theorem twoportRealOwn : ownKnob Tryz.prog.godebug = none := by kernel_rfl
set_option maxRecDepth 100000 in
theorem twoportReal_lifted (os : Os) (started : os.Started) (H : Type) (enc : TypeId × Value → H) :
    ReturnsInHanded {} Tryz.checked os 4 .any (fun w args => (Rows.twoportRealSpec.pre enc Tryz.prog Tryz.f4 [] false w args ∧ laidMetH Tryz.prog clL w) ∧ sizedMet enc Tryz.prog Tryz.f4 (OpenSpec.ofChange Rows.twoportRealSpec) false w args)
      (Rows.twoportRealSpec.post enc Tryz.prog Tryz.f4 false true false false) := by
  refine returnsInHanded_of_change_and (C := Tryz.checked) (X := fun w _ => laidMetH Tryz.prog clL w) (fun _ _ _ hh h => h.of_heap hh) twoportRealOwn started (by kernel_rfl) Tryz.func4
    (ChangeSpec.witness_shaped (enc := enc) (C := Tryz.checked) (os := os) (X := fun w _ => laidMetH Tryz.prog clL w) false (World.laidAll Tryz.prog os clL) #[.slice none 0 0, .string ⟨#[]⟩, .string ⟨#[]⟩, .int .u64 0] 8 (World.laidAll_os _ _ _)
      (World.shaped_of_ZipB (by kernel_rfl) (by kernel_rfl)) (by kernel_rfl) (by kernel_rfl) (by kernel_rfl)
      (by rw [MakeChecks.laidMetH_plain _ _ _ (by kernel_rfl)]; exact laidMet_laidAll _ (by kernel_rfl) (by kernel_rfl))) ?_
  intro W base args ds gs before hval0 hW hcnd hsz0 hL _
  have hval : ∀ (j : Nat) t v, Tryz.f4.params[j]? = some t → args[j]? = some v → Value.okWide Tryz.prog W .any base t v := hval0
  have hsz1 : (DataW.weightsEach Tryz.prog (Tryz.f4.params.toList ++ []) (ds ++ gs)).all (· ≤ reachBytes) = true := hsz0
  have hW' := hW
  obtain ⟨p, q, hA0, hV, rfl, _, _⟩ := hW
  have hA : DataW.TrodAll enc Tryz.prog W 0 (fun _ => true) true Tryz.f4.params.toList args.toList ds p := hA0
  rw [Tryz.params4] at hA hsz1 hval
  obtain ⟨v0, v1, v2, v3, d0, d1, d2, d3, p0, p1, p2, p3, rfl, rfl, rfl, h0, h1, h2, h3⟩ := trodAll_four hA
  obtain ⟨rfl, rfl⟩ := trodVars_none hV
  obtain ⟨a0, n0, c0, rfl⟩ := okWide_slice Tryz.underlying22 (hval 0 22 v0 rfl rfl)
  obtain ⟨hs0, hs1⟩ := small_head hsz1
  obtain ⟨s, rfl, _, _, ws⟩ := Go.ChangeMaps.open_string Tryz.underlying9 (hval 1 9 v1 rfl rfl) h1
  obtain ⟨t, rfl, _, _, wt⟩ := Go.ChangeMaps.open_string Tryz.underlying9 (hval 2 9 v2 rfl rfl) h2
  obtain ⟨m, rfl, _, _, wa⟩ := open_int Tryz.underlying23 (hval 3 23 v3 rfl rfl) h3
  have g0 : 0 ≤ m := by simp [Lit.wf] at wa; exact wa.1
  obtain ⟨om, rfl⟩ := Int.eq_ofNat_of_zero_le g0
  obtain ⟨fuel, h0⟩ := h0
  obtain ⟨l, hR, hm, hok⟩ := open_els h0 hs0
  refine (real_walk _ l s t om W (fun w' hb => lv23Later hL hb) hR hok ws wt).mono fun e W' ⟨he, hb⟩ => ?_
  subst he
  exact ⟨_, rfl, post_true Tryz.laidOut (by kernel_rfl) Tryz.underlying4 (by kernel_rfl) rfl rfl hW' hb⟩
end Go.Proofs.YtdepiggjneoopaaGreatDoor
