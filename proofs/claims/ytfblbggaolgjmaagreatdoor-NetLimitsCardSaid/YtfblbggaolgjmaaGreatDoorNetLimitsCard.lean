/- NetLimits, a closed statement: it returns true. The row, and the tied card. No condition but what the row itself lists. -/
import Derived.Test.YtfblbggaolgjmaaGreatDoorNetLimitsRunH
import Derived.Test.YtfblbggaolgjmaaGreatDoorCards
import Derived.Test.YtfblbggaolgjmaaGreatDoorTie
import Derived.WalkKit
import Derived.ProofKit
import Derived.OpenShut
import Derived.ChangeOld
import Derived.Below
import Derived.Lay
import Derived.SevenTiedAt
namespace Go.Proofs.YtfblbggaolgjmaaGreatDoor
open Go.ChangeShapes Go.WideShapes Go.ChangeAt Go.RowKit Go.Ev
theorem netLimitsOwn : ownKnob Tryz.prog.godebug = none := by kernel_rfl
set_option maxRecDepth 100000 in
theorem netLimits_lifted (os : Os) (started : os.Started) (H : Type) (enc : TypeId × Value → H) :
    ReturnsInHanded {} Tryz.checked os 3 .any (fun w args => (Rows.netLimitsSpec.pre enc Tryz.prog Tryz.f3 [] false w args ∧ laidMetH Tryz.prog clL w) ∧ sizedMet enc Tryz.prog Tryz.f3 (OpenSpec.ofChange Rows.netLimitsSpec) false w args)
      (Rows.netLimitsSpec.post enc Tryz.prog Tryz.f3 false true false false) := by
  refine returnsInHanded_of_change_and (C := Tryz.checked) (X := fun w _ => laidMetH Tryz.prog clL w) (fun _ _ _ hh h => h.of_heap hh) netLimitsOwn started (by kernel_rfl) Tryz.func3
    (ChangeSpec.witness_shaped (enc := enc) (C := Tryz.checked) (os := os) (X := fun w _ => laidMetH Tryz.prog clL w) false (World.laidAll Tryz.prog os clL) #[] 8 (World.laidAll_os _ _ _)
      (World.shaped_of_ZipB (by kernel_rfl) (by kernel_rfl)) (by kernel_rfl) (by kernel_rfl) (by kernel_rfl)
      (by rw [MakeChecks.laidMetH_plain _ _ _ (by kernel_rfl)]; exact laidMet_laidAll _ (by kernel_rfl) (by kernel_rfl))) ?_
  intro W base args ds gs before hval0 hW _ _ hL _
  have hW' := hW
  obtain ⟨p, q, hA0, hV, rfl, _, _⟩ := hW
  have hA : DataW.TrodAll enc Tryz.prog W 0 (fun _ => true) true Tryz.f3.params.toList args.toList ds p := hA0
  rw [Tryz.params3] at hA
  obtain ⟨rfl, rfl, rfl⟩ : args = #[] ∧ ds = [] ∧ p = [] := by
    obtain ⟨l⟩ := args
    cases l <;> cases ds <;> simp_all [DataW.TrodAll]
  obtain ⟨rfl, rfl⟩ := trodVars_none hV
  refine (clLaw hL netLimitsN9).mono fun e W' ⟨he, hb⟩ => ?_
  subst he
  exact ⟨_, rfl, _, _, _, [], [], [], hW', trodAll_mk1 (shut_bool (by kernel_rfl) _), rfl, rfl, hb.frame _, fun h => by cases h⟩

theorem netLimitsAnd {a b : Bool} (h1 : a = true) (h2 : b = true) : (a && b) = true := by rw [h1, h2]; rfl
set_option maxRecDepth 100000 in
set_option maxHeartbeats 4000000 in
theorem netLimitsClosed : joinedFacts Tryz.pinned.checked.prog 3 Tryz.f3 Rows.netLimitsSpec Rows.netLimitsRow = true := by
  unfold joinedFacts
  repeat' (with_reducible apply netLimitsAnd)
  all_goals as_aux_lemma => kernel_rfl
theorem netLimitsNamed : Tryz.pinned.checked.prog.funcNamed Rows.netLimitsRow.func = some 3 := by kernel_rfl
theorem netLimitsInst : Tryz.f3.isInstance Tryz.pinned.checked.prog Rows.netLimitsRow.origin Rows.netLimitsRow.targs := of_decide_eq_true (by kernel_rfl)
theorem netLimitsWrap : Tryz.f3.isWrapper Tryz.pinned.checked.prog Rows.netLimitsRow.wrapper Rows.netLimitsRow.mainSum := by unfold Func.isWrapper; rw [if_neg (of_decide_eq_false (by kernel_rfl))]; exact ⟨rfl, rfl⟩
theorem netLimits_holds : Rows.NetLimitsSaid :=
  OpenClaim.holds_of_wide 3 Tryz.f3 rfl rfl rfl rfl rfl rfl rfl ⟨rfl, rfl, rfl, rfl, rfl⟩ rfl rfl rfl rfl rfl netLimitsNamed Tryz.func3 netLimitsClosed
    netLimitsInst netLimitsWrap
    (fun os started H enc _ => netLimits_lifted os started H enc)

/-- The tied card. -/
theorem netLimits_card : Rows.NetLimitsCardSaid :=
  Claim7.holds_tied_plain_at .later [] [.data, .data, .widerDeep, .widerDeep, .data, .data, .data, .data, .data, .data, .sentinel, .sentinel, .listed, .data, .pinned, .pinned, .pinned] true (true, "a2a9dfc31c8bba350673571c23eb24f262695b90d90dbf5554cb7fe7507f5e16") true netLimits_holds (fun _ h => by cases h) (by kernel_rfl) (fun _ h => by cases h) netLimits_row_tie rfl ⟨rfl, rfl⟩ (by kernel_rfl) rfl
    (fun f fn hf hfn => by
      obtain rfl : f = 3 := Option.some.inj ((show Tryz.prog.funcNamed "gridwork/gridworklaw15.NetLimits" = some 3 by kernel_rfl).symm.trans hf) |>.symm
      obtain rfl : fn = Tryz.f3 := (Option.some.inj (Tryz.func3.symm.trans hfn)).symm
      exact ⟨by kernel_rfl, fun j t ht => by
        rw [Tryz.params3] at ht
        simp at ht⟩)
    (by kernel_rfl)
#print axioms netLimits_card
end Go.Proofs.YtfblbggaolgjmaaGreatDoor
