/- PhasorAsks: it returns true, of every input. The row, and the tied card. No condition but what the row itself lists. -/
import Derived.Test.YtjeedckmkicnoaaGreatDoorAsksAll
import Derived.Test.YtjeedckmkicnoaaGreatDoorLv20Later
import Derived.Test.YtjeedckmkicnoaaGreatDoorCards
import Derived.Test.YtjeedckmkicnoaaGreatDoorTie
import Derived.WalkKit
import Derived.ProofKit
import Derived.OpenShut
import Derived.ChangeOld
import Derived.Below
import Derived.Lay
import Derived.SevenTiedAt
namespace Go.Proofs.YtjeedckmkicnoaaGreatDoor
open Go.ChangeShapes Go.WideShapes Go.ChangeAt Go.RowKit Go.Joins Go.Deep
theorem phasorAsksOwn : ownKnob Tryz.prog.godebug = none := by kernel_rfl
set_option maxRecDepth 100000 in
theorem phasorAsks_lifted (os : Os) (started : os.Started) (H : Type) (enc : TypeId × Value → H) :
    ReturnsInHanded {} Tryz.checked os 4 .any (fun w args => (Rows.phasorAsksSpec.pre enc Tryz.prog Tryz.f4 [] false w args ∧ laidMetH Tryz.prog clL w) ∧ sizedMet enc Tryz.prog Tryz.f4 (OpenSpec.ofChange Rows.phasorAsksSpec) false w args)
      (Rows.phasorAsksSpec.post enc Tryz.prog Tryz.f4 false true false false) := by
  refine returnsInHanded_of_change_and (C := Tryz.checked) (X := fun w _ => laidMetH Tryz.prog clL w) (fun _ _ _ hh h => h.of_heap hh) phasorAsksOwn started (by kernel_rfl) Tryz.func4
    (ChangeSpec.witness_shaped (enc := enc) (C := Tryz.checked) (os := os) (X := fun w _ => laidMetH Tryz.prog clL w) false (World.laidAll Tryz.prog os clL) #[.slice none 0 0, .agg #[.slice none 0 0, .slice none 0 0, .string ⟨#[]⟩, .string ⟨#[]⟩]] 8 (World.laidAll_os _ _ _)
      (World.shaped_of_ZipB (by kernel_rfl) (by kernel_rfl)) (by kernel_rfl) (by kernel_rfl) (by kernel_rfl)
      (by rw [MakeChecks.laidMetH_plain _ _ _ (by kernel_rfl)]; exact laidMet_laidAll _ (by kernel_rfl) (by kernel_rfl))) ?_
  intro W base args ds gs before hval0 hW hcnd hsz0 hL _
  have hval : ∀ (j : Nat) t v, Tryz.f4.params[j]? = some t → args[j]? = some v → Value.okWide Tryz.prog W .any base t v := hval0
  have hsz1 : (DataW.weightsEach Tryz.prog (Tryz.f4.params.toList ++ []) (ds ++ gs)).all (· ≤ reachBytes) = true := hsz0
  have hW' := hW
  obtain ⟨p, q, hA0, hV, rfl, _, _⟩ := hW
  have hA : DataW.TrodAll enc Tryz.prog W 0 (fun _ => true) true Tryz.f4.params.toList args.toList ds p := hA0
  rw [Tryz.params4] at hA hsz1 hval
  obtain ⟨v0, v1, d0, d1, p0, p1, rfl, rfl, rfl, h0, h1⟩ := trodAll_two hA
  obtain ⟨rfl, rfl⟩ := trodVars_none hV
  obtain ⟨a0, n0, c0, rfl⟩ := okWide_slice Tryz.underlying22 (hval 0 22 v0 rfl rfl)
  obtain ⟨hs0, hs1⟩ := small_head hsz1
  obtain ⟨hs1, hs2⟩ := small_head hs1
  obtain ⟨u1, u2, V, A, s, t, rfl, hVi, hAi, hVl, hAl, hsl, htl⟩ := open_ask (hval 1 46 v1 rfl rfl) h1 hs1
  obtain ⟨fuel, h0⟩ := h0
  obtain ⟨l, hR, hm, hok⟩ := open_els h0 hs0
  refine (asks_walk _ u1 u2 l V A s t W (fun w' hb => lv20Later hL hb) hR hok hVi hAi (Nat.le_trans hVl (by decide)) (Nat.le_trans hAl (by decide)) hsl htl).mono fun e W' ⟨he, hb⟩ => ?_
  subst he
  exact ⟨_, rfl, post_true Tryz.laidOut (by kernel_rfl) Tryz.underlying4 (by kernel_rfl) rfl rfl hW' hb⟩
end Go.Proofs.YtjeedckmkicnoaaGreatDoor
