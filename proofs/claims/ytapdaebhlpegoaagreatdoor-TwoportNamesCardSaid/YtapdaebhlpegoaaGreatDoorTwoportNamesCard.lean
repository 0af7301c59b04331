/- TwoportNames, a closed statement: it returns true. The row, and the tied card. No condition but what the row itself lists. -/
import Derived.Test.YtapdaebhlpegoaaGreatDoorTwoportNamesKnown
import Derived.Test.YtapdaebhlpegoaaGreatDoorCards
import Derived.Test.YtapdaebhlpegoaaGreatDoorTie
import Derived.WalkKit
import Derived.ProofKit
import Derived.OpenShut
import Derived.ChangeOld
import Derived.Below
import Derived.Lay
import Derived.SevenTiedAt
namespace Go.Proofs.YtapdaebhlpegoaaGreatDoor
open Go.ChangeShapes Go.WideShapes Go.ChangeAt Go.RowKit Go.Ev
theorem twoportNamesOwn : ownKnob Tryz.prog.godebug = none := by kernel_rfl
set_option maxRecDepth 100000 in
theorem twoportNames_lifted (os : Os) (started : os.Started) (H : Type) (enc : TypeId × Value → H) :
    ReturnsInHanded {} Tryz.checked os 4 .any (fun w args => (Rows.twoportNamesSpec.pre enc Tryz.prog Tryz.f4 [] false w args ∧ laidMetH Tryz.prog clL w) ∧ sizedMet enc Tryz.prog Tryz.f4 (OpenSpec.ofChange Rows.twoportNamesSpec) false w args)
      (Rows.twoportNamesSpec.post enc Tryz.prog Tryz.f4 false true false false) := by
  refine returnsInHanded_of_change_and (C := Tryz.checked) (X := fun w _ => laidMetH Tryz.prog clL w) (fun _ _ _ hh h => h.of_heap hh) twoportNamesOwn started (by kernel_rfl) Tryz.func4
    (ChangeSpec.witness_shaped (enc := enc) (C := Tryz.checked) (os := os) (X := fun w _ => laidMetH Tryz.prog clL w) false (World.laidAll Tryz.prog os clL) #[] 8 (World.laidAll_os _ _ _)
      (World.shaped_of_ZipB (by kernel_rfl) (by kernel_rfl)) (by kernel_rfl) (by kernel_rfl) (by kernel_rfl)
      (by rw [MakeChecks.laidMetH_plain _ _ _ (by kernel_rfl)]; exact laidMet_laidAll _ (by kernel_rfl) (by kernel_rfl))) ?_
  intro W base args ds gs before hval0 hW _ _ hL _
  have hW' := hW
  obtain ⟨p, q, hA0, hV, rfl, _, _⟩ := hW
  have hA : DataW.TrodAll enc Tryz.prog W 0 (fun _ => true) true Tryz.f4.params.toList args.toList ds p := hA0
  rw [Tryz.params4] at hA
  obtain ⟨rfl, rfl, rfl⟩ : args = #[] ∧ ds = [] ∧ p = [] := by
    obtain ⟨l⟩ := args
    cases l <;> cases ds <;> simp_all [DataW.TrodAll]
  obtain ⟨rfl, rfl⟩ := trodVars_none hV
  refine (clLaw hL twoportNamesN9).mono fun e W' ⟨he, hb⟩ => ?_
  subst he
  exact ⟨_, rfl, _, _, _, [], [], [], hW', trodAll_mk1 (shut_bool (by kernel_rfl) _), rfl, rfl, hb.frame _, fun h => by cases h⟩

theorem twoportNamesAnd {a b : Bool} (h1 : a = true) (h2 : b = true) : (a && b) = true := by rw [h1, h2]; rfl
set_option maxRecDepth 100000 in
set_option maxHeartbeats 4000000 in
theorem twoportNamesClosed : joinedFacts Tryz.pinned.checked.prog 4 Tryz.f4 Rows.twoportNamesSpec Rows.twoportNamesRow = true := by
  unfold joinedFacts
  repeat' (with_reducible apply twoportNamesAnd)
  all_goals as_aux_lemma => kernel_rfl
theorem twoportNamesNamed : Tryz.pinned.checked.prog.funcNamed Rows.twoportNamesRow.func = some 4 := by kernel_rfl
theorem twoportNamesInst : Tryz.f4.isInstance Tryz.pinned.checked.prog Rows.twoportNamesRow.origin Rows.twoportNamesRow.targs := of_decide_eq_true (by kernel_rfl)
theorem twoportNamesWrap : Tryz.f4.isWrapper Tryz.pinned.checked.prog Rows.twoportNamesRow.wrapper Rows.twoportNamesRow.mainSum := by unfold Func.isWrapper; rw [if_neg (of_decide_eq_false (by kernel_rfl))]; exact ⟨rfl, rfl⟩
theorem twoportNames_holds : Rows.TwoportNamesSaid :=
  OpenClaim.holds_of_wide 4 Tryz.f4 rfl rfl rfl rfl rfl rfl rfl ⟨rfl, rfl, rfl, rfl, rfl⟩ rfl rfl rfl rfl rfl twoportNamesNamed Tryz.func4 twoportNamesClosed
    twoportNamesInst twoportNamesWrap
    (fun os started H enc _ => twoportNames_lifted os started H enc)

/-- The tied card. -/
theorem twoportNames_card : Rows.TwoportNamesCardSaid :=
  Claim7.holds_tied_plain_at .later [] [.data, .data, .widerDeep, .widerDeep, .data, .data, .data, .data, .data, .data, .sentinel, .sentinel, .listed, .data, .pinned, .pinned, .pinned] true (true, "f462cfd81e3fa7ed23ef7edf099ec1ab23bc76e57fad29002b511d95817d43f6") true twoportNames_holds (fun _ h => by cases h) (by kernel_rfl) (fun _ h => by cases h) twoportNames_row_tie rfl ⟨rfl, rfl⟩ (by kernel_rfl) rfl
    (fun f fn hf hfn => by
      obtain rfl : f = 4 := Option.some.inj ((show Tryz.prog.funcNamed "gridwork/gridworklaw23.TwoportNames" = some 4 by kernel_rfl).symm.trans hf) |>.symm
      obtain rfl : fn = Tryz.f4 := (Option.some.inj (Tryz.func4.symm.trans hfn)).symm
      exact ⟨by kernel_rfl, fun j t ht => by
        rw [Tryz.params4] at ht
        simp at ht⟩)
    (by kernel_rfl)
#print axioms twoportNames_card
end Go.Proofs.YtapdaebhlpegoaaGreatDoor
