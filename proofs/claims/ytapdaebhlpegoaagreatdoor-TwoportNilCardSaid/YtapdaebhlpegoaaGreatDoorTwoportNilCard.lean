/- TwoportNil, a closed statement: it returns true. The row, and the tied card. No condition but what the row itself lists. -/
import Derived.Test.YtapdaebhlpegoaaGreatDoorTwoportNilKnown
import Derived.Test.YtapdaebhlpegoaaGreatDoorCards
import Derived.Test.YtapdaebhlpegoaaGreatDoorTie
import Derived.WalkKit
import Derived.ProofKit
import Derived.OpenShut
import Derived.ChangeOld
import Derived.Below
import Derived.Lay
import Derived.SevenTiedAt
namespace Go.Proofs.YtapdaebhlpegoaaGreatDoor
open Go.ChangeShapes Go.WideShapes Go.ChangeAt Go.RowKit Go.Ev
theorem twoportNilOwn : ownKnob Tryz.prog.godebug = none := by kernel_rfl
set_option maxRecDepth 100000 in
theorem twoportNil_lifted (os : Os) (started : os.Started) (H : Type) (enc : TypeId × Value → H) :
    ReturnsInHanded {} Tryz.checked os 3 .any (fun w args => (Rows.twoportNilSpec.pre enc Tryz.prog Tryz.f3 [] false w args ∧ laidMetH Tryz.prog clL w) ∧ sizedMet enc Tryz.prog Tryz.f3 (OpenSpec.ofChange Rows.twoportNilSpec) false w args)
      (Rows.twoportNilSpec.post enc Tryz.prog Tryz.f3 false true false false) := by
  refine returnsInHanded_of_change_and (C := Tryz.checked) (X := fun w _ => laidMetH Tryz.prog clL w) (fun _ _ _ hh h => h.of_heap hh) twoportNilOwn started (by kernel_rfl) Tryz.func3
    (ChangeSpec.witness_shaped (enc := enc) (C := Tryz.checked) (os := os) (X := fun w _ => laidMetH Tryz.prog clL w) false (World.laidAll Tryz.prog os clL) #[.string .empty, .string .empty, .int .u64 0] 8 (World.laidAll_os _ _ _)
      (World.shaped_of_ZipB (by kernel_rfl) (by kernel_rfl)) (by kernel_rfl) (by kernel_rfl) (by kernel_rfl)
      (by rw [MakeChecks.laidMetH_plain _ _ _ (by kernel_rfl)]; exact laidMet_laidAll _ (by kernel_rfl) (by kernel_rfl))) ?_
  intro W base args ds gs before hval0 hW _ _ hL _
  have hW' := hW
  obtain ⟨p, q, hA0, hV, rfl, _, _⟩ := hW
  have hA : DataW.TrodAll enc Tryz.prog W 0 (fun _ => true) true Tryz.f3.params.toList args.toList ds p := hA0
  have hval : ∀ (j : Nat) t v, Tryz.f3.params[j]? = some t → args[j]? = some v → Value.okWide Tryz.prog W .any base t v := hval0
  have hargs : ∀ ρ : Env, All2 (relU ρ) twoportNilU args.toList := symA_rel (ts := Tryz.f3.params.toList) (by kernel_rfl) (fun j t v h1 h2 => hval j t v (by simpa using h1) (by simpa using h2)) hA
  rw [Tryz.params3] at hA
  obtain ⟨v0, v1, v2, d0, d1, d2, p0, p1, p2, rfl, rfl, rfl, h0, h1, h2⟩ := trodAll_three hA
  obtain ⟨rfl, rfl⟩ := trodVars_none hV
  refine (clLaw hL (twoportNilN9 hargs)).mono fun e W' ⟨he, hb⟩ => ?_
  subst he
  exact ⟨_, rfl, post_true (t := 4) clLaid (by kernel_rfl) (by kernel_rfl) (by kernel_rfl) rfl rfl hW' hb⟩

theorem twoportNilAnd {a b : Bool} (h1 : a = true) (h2 : b = true) : (a && b) = true := by rw [h1, h2]; rfl
set_option maxRecDepth 100000 in
set_option maxHeartbeats 4000000 in
theorem twoportNilClosed : joinedFacts Tryz.pinned.checked.prog 3 Tryz.f3 Rows.twoportNilSpec Rows.twoportNilRow = true := by
  unfold joinedFacts
  repeat' (with_reducible apply twoportNilAnd)
  all_goals as_aux_lemma => kernel_rfl
theorem twoportNilNamed : Tryz.pinned.checked.prog.funcNamed Rows.twoportNilRow.func = some 3 := by kernel_rfl
theorem twoportNilInst : Tryz.f3.isInstance Tryz.pinned.checked.prog Rows.twoportNilRow.origin Rows.twoportNilRow.targs := of_decide_eq_true (by kernel_rfl)
theorem twoportNilWrap : Tryz.f3.isWrapper Tryz.pinned.checked.prog Rows.twoportNilRow.wrapper Rows.twoportNilRow.mainSum := by unfold Func.isWrapper; rw [if_neg (of_decide_eq_false (by kernel_rfl))]; exact ⟨rfl, rfl⟩
theorem twoportNil_holds : Rows.TwoportNilSaid :=
  OpenClaim.holds_of_wide 3 Tryz.f3 rfl rfl rfl rfl rfl rfl rfl ⟨rfl, rfl, rfl, rfl, rfl⟩ rfl rfl rfl rfl rfl twoportNilNamed Tryz.func3 twoportNilClosed
    twoportNilInst twoportNilWrap
    (fun os started H enc _ => twoportNil_lifted os started H enc)

/-- The tied card. -/
theorem twoportNil_card : Rows.TwoportNilCardSaid :=
  Claim7.holds_tied_plain_at .later [] [.data, .data, .widerDeep, .widerDeep, .data, .data, .data, .data, .data, .data, .sentinel, .sentinel, .listed, .data, .pinned, .pinned, .pinned] true (true, "f462cfd81e3fa7ed23ef7edf099ec1ab23bc76e57fad29002b511d95817d43f6") true twoportNil_holds (fun _ h => by cases h) (by kernel_rfl) (fun _ h => by cases h) twoportNil_row_tie rfl ⟨rfl, rfl⟩ (by kernel_rfl) rfl
    (fun f fn hf hfn => by
      obtain rfl : f = 3 := Option.some.inj ((show Tryz.prog.funcNamed "gridwork/gridworklaw23.TwoportNil" = some 3 by kernel_rfl).symm.trans hf) |>.symm
      obtain rfl : fn = Tryz.f3 := (Option.some.inj (Tryz.func3.symm.trans hfn)).symm
      exact ⟨by kernel_rfl, fun j t ht => by
        rw [Tryz.params3] at ht
        have hm : t ∈ Tryz.f3.params.toList := by rw [Tryz.params3]; simpa using Array.mem_of_getElem? ht
        have hall : (Tryz.f3.params.toList.all fun u => !Tryz.prog.wantsStandIn u) = true := by kernel_rfl
        exact (show Tryz.prog.wantsStandIn t = false by simpa using List.all_eq_true.1 hall t hm)⟩)
    (by kernel_rfl)
#print axioms twoportNil_card
end Go.Proofs.YtapdaebhlpegoaaGreatDoor
