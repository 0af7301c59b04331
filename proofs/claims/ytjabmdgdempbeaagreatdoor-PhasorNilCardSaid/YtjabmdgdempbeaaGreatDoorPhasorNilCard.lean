/- PhasorNil, a closed statement: it returns true. The row, and the tied card. No condition but what the row itself lists. -/
import Derived.Test.YtjabmdgdempbeaaGreatDoorPhasorNilKnown
import Derived.Test.YtjabmdgdempbeaaGreatDoorCards
import Derived.Test.YtjabmdgdempbeaaGreatDoorTie
import Derived.WalkKit
import Derived.ProofKit
import Derived.OpenShut
import Derived.ChangeOld
import Derived.Below
import Derived.Lay
import Derived.SevenTiedAt
namespace Go.Proofs.YtjabmdgdempbeaaGreatDoor
open Go.ChangeShapes Go.WideShapes Go.ChangeAt Go.RowKit Go.Ev
theorem phasorNilOwn : ownKnob Tryz.prog.godebug = none := by kernel_rfl
set_option maxRecDepth 100000 in
theorem phasorNil_lifted (os : Os) (started : os.Started) (H : Type) (enc : TypeId × Value → H) :
    ReturnsInHanded {} Tryz.checked os 4 .any (fun w args => (Rows.phasorNilSpec.pre enc Tryz.prog Tryz.f4 [] false w args ∧ laidMetH Tryz.prog clL w) ∧ sizedMet enc Tryz.prog Tryz.f4 (OpenSpec.ofChange Rows.phasorNilSpec) false w args)
      (Rows.phasorNilSpec.post enc Tryz.prog Tryz.f4 false true false false) := by
  refine returnsInHanded_of_change_and (C := Tryz.checked) (X := fun w _ => laidMetH Tryz.prog clL w) (fun _ _ _ hh h => h.of_heap hh) phasorNilOwn started (by kernel_rfl) Tryz.func4
    (ChangeSpec.witness_shaped (enc := enc) (C := Tryz.checked) (os := os) (X := fun w _ => laidMetH Tryz.prog clL w) false (World.laidAll Tryz.prog os clL) #[.int .u64 0, .string .empty] 8 (World.laidAll_os _ _ _)
      (World.shaped_of_ZipB (by kernel_rfl) (by kernel_rfl)) (by kernel_rfl) (by kernel_rfl) (by kernel_rfl)
      (by rw [MakeChecks.laidMetH_plain _ _ _ (by kernel_rfl)]; exact laidMet_laidAll _ (by kernel_rfl) (by kernel_rfl))) ?_
  intro W base args ds gs before hval0 hW _ _ hL _
  have hW' := hW
  obtain ⟨p, q, hA0, hV, rfl, _, _⟩ := hW
  have hA : DataW.TrodAll enc Tryz.prog W 0 (fun _ => true) true Tryz.f4.params.toList args.toList ds p := hA0
  have hval : ∀ (j : Nat) t v, Tryz.f4.params[j]? = some t → args[j]? = some v → Value.okWide Tryz.prog W .any base t v := hval0
  have hargs : ∀ ρ : Env, All2 (relU ρ) phasorNilU args.toList := symA_rel (ts := Tryz.f4.params.toList) (by kernel_rfl) (fun j t v h1 h2 => hval j t v (by simpa using h1) (by simpa using h2)) hA
  rw [Tryz.params4] at hA
  obtain ⟨v0, v1, d0, d1, p0, p1, rfl, rfl, rfl, h0, h1⟩ := trodAll_two hA
  obtain ⟨rfl, rfl⟩ := trodVars_none hV
  refine (clLaw hL (phasorNilN4 hargs)).mono fun e W' ⟨he, hb⟩ => ?_
  subst he
  exact ⟨_, rfl, post_true (t := 4) clLaid (by kernel_rfl) (by kernel_rfl) (by kernel_rfl) rfl rfl hW' hb⟩

theorem phasorNilAnd {a b : Bool} (h1 : a = true) (h2 : b = true) : (a && b) = true := by rw [h1, h2]; rfl
set_option maxRecDepth 100000 in
set_option maxHeartbeats 4000000 in
theorem phasorNilClosed : joinedFacts Tryz.pinned.checked.prog 4 Tryz.f4 Rows.phasorNilSpec Rows.phasorNilRow = true := by
  unfold joinedFacts
  repeat' (with_reducible apply phasorNilAnd)
  all_goals as_aux_lemma => kernel_rfl
theorem phasorNilNamed : Tryz.pinned.checked.prog.funcNamed Rows.phasorNilRow.func = some 4 := by kernel_rfl
theorem phasorNilInst : Tryz.f4.isInstance Tryz.pinned.checked.prog Rows.phasorNilRow.origin Rows.phasorNilRow.targs := of_decide_eq_true (by kernel_rfl)
theorem phasorNilWrap : Tryz.f4.isWrapper Tryz.pinned.checked.prog Rows.phasorNilRow.wrapper Rows.phasorNilRow.mainSum := by unfold Func.isWrapper; rw [if_neg (of_decide_eq_false (by kernel_rfl))]; exact ⟨rfl, rfl⟩
theorem phasorNil_holds : Rows.PhasorNilSaid :=
  OpenClaim.holds_of_wide 4 Tryz.f4 rfl rfl rfl rfl rfl rfl rfl ⟨rfl, rfl, rfl, rfl, rfl⟩ rfl rfl rfl rfl rfl phasorNilNamed Tryz.func4 phasorNilClosed
    phasorNilInst phasorNilWrap
    (fun os started H enc _ => phasorNil_lifted os started H enc)

/-- The tied card. -/
theorem phasorNil_card : Rows.PhasorNilCardSaid :=
  Claim7.holds_tied_plain_at .later [] [.data, .data, .widerDeep, .widerDeep, .data, .data, .data, .data, .data, .data, .sentinel, .sentinel, .listed, .data, .pinned, .pinned, .pinned] true (true, "0d411478b474ac6b2d091e9d4dc79b1ceb6b06161348e6357a6be26a77dd3d63") true phasorNil_holds (fun _ h => by cases h) (by kernel_rfl) (fun _ h => by cases h) phasorNil_row_tie rfl ⟨rfl, rfl⟩ (by kernel_rfl) rfl
    (fun f fn hf hfn => by
      obtain rfl : f = 4 := Option.some.inj ((show Tryz.prog.funcNamed "gridwork/gridworklaw20.PhasorNil" = some 4 by kernel_rfl).symm.trans hf) |>.symm
      obtain rfl : fn = Tryz.f4 := (Option.some.inj (Tryz.func4.symm.trans hfn)).symm
      exact ⟨by kernel_rfl, fun j t ht => by
        rw [Tryz.params4] at ht
        have hm : t ∈ Tryz.f4.params.toList := by rw [Tryz.params4]; simpa using Array.mem_of_getElem? ht
        have hall : (Tryz.f4.params.toList.all fun u => !Tryz.prog.wantsStandIn u) = true := by kernel_rfl
        exact (show Tryz.prog.wantsStandIn t = false by simpa using List.all_eq_true.1 hall t hm)⟩)
    (by kernel_rfl)
#print axioms phasorNil_card
end Go.Proofs.YtjabmdgdempbeaaGreatDoor
